/- The walks of RecordBytes, and of the law (printed by gen_recbytes2.py). -/
import Derived.Test.YteaefjicpefgnaaRecBytes
import Derived.Test.YteaefjicpefgnaaLawRecord
import Derived.Test.YteaefjicpefgnaaMarkB
namespace Go.Proofs.Yteaefjicpefgnaa
open Go.RowKit Go.Deep
set_option linter.unusedVariables false
set_option maxRecDepth 100000
theorem rec_nats {e ls tx k p nx pg sl : Int} {bf af : ByteArray} (h : recB e ls tx k p nx pg sl bf af = true) : (0 ≤ e ∧ e ≤ 60) ∧ (0 ≤ ls ∧ ls ≤ 60) ∧ (0 ≤ tx ∧ tx ≤ 60) ∧ (0 ≤ k ∧ k ≤ 60) ∧ (0 ≤ p ∧ p ≤ 60) ∧ (0 ≤ nx ∧ nx ≤ 60) ∧ (0 ≤ pg ∧ pg ≤ 60) ∧ (0 ≤ sl ∧ sl ≤ 60) := by
  unfold recB at h
  rw [Bool.and_eq_true, Bool.and_eq_true] at h
  obtain ⟨⟨h1, h2⟩, h3⟩ := h
  have h1 := inB_true h1
  have h2 := inB_true h2
  by_cases h6 : k = 6
  · rw [if_pos h6] at h3
    simp only [Bool.and_eq_true, decide_eq_true_eq] at h3
    omega
  · rw [if_neg h6, Bool.and_eq_true, Bool.and_eq_true, Bool.and_eq_true] at h3
    obtain ⟨⟨⟨h4, h5⟩, _⟩, h7⟩ := h3
    have h4 := inB_true h4
    have h5 := inB_true h5
    by_cases k2 : k = 2
    · rw [if_pos k2] at h7
      simp only [Bool.and_eq_true, decide_eq_true_eq] at h7
      have a1 := inB_true h7.1.1.1.1
      have a2 := inB_true h7.1.1.1.2
      omega
    · by_cases k3 : k = 3
      · rw [if_neg k2, if_pos k3] at h7
        simp only [Bool.and_eq_true, decide_eq_true_eq] at h7
        have a1 := inB_true h7.1.1.1.1
        have a2 := inB_true h7.1.1.1.2
        have a3 := inB_true h7.2
        omega
      · rw [if_neg k2, if_neg k3] at h7
        simp only [Bool.and_eq_true, decide_eq_true_eq] at h7
        have a1 := inB_true h7.1.1.1.1.1
        omega
/-- what RecordBytes answers -/
def rbL (e ls tx k p nx pg sl : Int) (bf af : ByteArray) : List UInt8 := if recB e ls tx k p nx pg sl bf af then recRaw e.toNat ls.toNat tx.toNat k.toNat p.toNat nx.toNat pg.toNat sl.toNat bf af else []
def rbC (e ls tx k p nx pg sl : Int) (bf af : ByteArray) : Int := if recB e ls tx k p nx pg sl bf af then 0 else 1
theorem rb_no {e ls tx k p nx pg sl : Int} {bf af : ByteArray} (h : recB e ls tx k p nx pg sl bf af = false) : rbL e ls tx k p nx pg sl bf af = [] ∧ rbC e ls tx k p nx pg sl bf af = 1 := by unfold rbL rbC; rw [h]; exact ⟨rfl, rfl⟩
theorem rb_yes {e ls tx k p nx pg sl : Int} {bf af : ByteArray} (h : recB e ls tx k p nx pg sl bf af = true) : rbL e ls tx k p nx pg sl bf af = recRaw e.toNat ls.toNat tx.toNat k.toNat p.toNat nx.toNat pg.toNat sl.toNat bf af ∧ rbC e ls tx k p nx pg sl bf af = 0 := by unfold rbL rbC; rw [h]; exact ⟨rfl, rfl⟩
theorem rbL_len {e ls tx k p nx pg sl : Int} {bf af : ByteArray} (hb : bf.size ≤ 1048576) (ha : af.size ≤ 1048576) : (rbL e ls tx k p nx pg sl bf af).length ≤ 4000000 := by
  unfold rbL; split
  · rw [recRaw_len]; omega
  · simp
set_option maxHeartbeats 2000000 in
theorem impl_RecordBytes (e ls tx k p nx pg sl : Int) (bf af : ByteArray) (w : World) (hb : bf.size ≤ 1048576) (ha : af.size ≤ 1048576) (wl : (Lit.int .i64 ls).wf = true) :
    Calls Try.prog 48 #[.agg #[.int .i64 e, .int .i64 ls, .int .i64 tx, .int .i64 k, .int .i64 p, .int .i64 nx, .int .i64 pg, .int .i64 sl, .string bf, .string af]] w fun en w' => ∃ v, en = .returned (.tuple #[v, .int .i64 (rbC e ls tx k p nx pg sl bf af)]) ∧ w'.ownsRow w.heap.size 5 1 v (rbL e ls tx k p nx pg sl bf af).length ((rbL e ls tx k p nx pg sl bf af).map fun c => Value.int .u8 (c.toNat : Int)) ∧ Ext w w' := by
  have hX := Blk.new w 57 [.int .i64 e, .int .i64 ls, .int .i64 tx, .int .i64 k, .int .i64 p, .int .i64 nx, .int .i64 pg, .int .i64 sl, .string bf, .string af]
  have hE0 : Ext w (w.alloc (.cells #[.int .i64 e, .int .i64 ls, .int .i64 tx, .int .i64 k, .int .i64 p, .int .i64 nx, .int .i64 pg, .int .i64 sl, .string bf, .string af] 57)) := (by repeat (first | exact Ext.refl _ | assumption | refine Ext.alloc ?_ _ | refine Ext.drewN ?_ _ | refine Ext.drew ?_ | refine Ext.set ?_ (by dsimp only; omega) _ | refine Ext.trans ?_ (by assumption)))
  have HOK := Lib.hid (impl_RecordOK e ls tx k p nx pg sl bf af (w.alloc (.cells #[.int .i64 e, .int .i64 ls, .int .i64 tx, .int .i64 k, .int .i64 p, .int .i64 nx, .int .i64 pg, .int .i64 sl, .string bf, .string af] 57)) (by omega) (by omega))
  rcases hk : recB e ls tx k p nx pg sl bf af with _ | _
  · have HV := Lib.hid (rb_no hk)
    have HK := Lib.hid hk
    clear hk
    go_enter Try.func48, Try.ntmps48
    go_wp2_with fail
    refine HOK.out.mono ?_
    rintro en w1 ⟨rfl, E1⟩
    rw [HK.out]
    go_wp2_with fail
    go_ret2
    rw [HV.out.1, HV.out.2]
    exact ⟨_, rfl, nil_own, hE0.trans E1⟩
  · have HV := Lib.hid (rb_yes hk)
    have HK := Lib.hid hk
    obtain ⟨r0, r1, r2, r3, r4, r5, r6, r7⟩ := rec_nats hk
    obtain ⟨n0, rfl⟩ := Int.eq_ofNat_of_zero_le r0.1
    obtain ⟨n1, rfl⟩ := Int.eq_ofNat_of_zero_le r1.1
    obtain ⟨n2, rfl⟩ := Int.eq_ofNat_of_zero_le r2.1
    obtain ⟨n3, rfl⟩ := Int.eq_ofNat_of_zero_le r3.1
    obtain ⟨n4, rfl⟩ := Int.eq_ofNat_of_zero_le r4.1
    obtain ⟨n5, rfl⟩ := Int.eq_ofNat_of_zero_le r5.1
    obtain ⟨n6, rfl⟩ := Int.eq_ofNat_of_zero_le r6.1
    obtain ⟨n7, rfl⟩ := Int.eq_ofNat_of_zero_le r7.1
    have HB := Lib.hid (fun W => impl_recordBytes n0 n1 n2 n3 n4 n5 n6 n7 bf af W (by omega) (by omega) (by omega) (by omega) (by omega) (by omega) (by omega) (by omega) (by omega) (by omega))
    have HX := Lib.hid hX
    clear hk r0 r1 r2 r3 r4 r5 r6 r7 hX
    go_enter Try.func48, Try.ntmps48
    go_wp2_with fail
    refine HOK.out.mono ?_
    rintro en w1 ⟨rfl, E1⟩
    rw [HK.out]
    have HX1 := Lib.hid (HX.out.ext E1)
    have c0 : w1.cell? ⟨w.heap.size, 0, none⟩ = some (.int .i64 (n0 : Int)) := HX1.out.cell (i := 0) (by simp)
    have c1 : w1.cell? ⟨w.heap.size, 1, none⟩ = some (.int .i64 (n1 : Int)) := HX1.out.cell (i := 1) (by simp)
    have c2 : w1.cell? ⟨w.heap.size, 2, none⟩ = some (.int .i64 (n2 : Int)) := HX1.out.cell (i := 2) (by simp)
    have c3 : w1.cell? ⟨w.heap.size, 3, none⟩ = some (.int .i64 (n3 : Int)) := HX1.out.cell (i := 3) (by simp)
    have c4 : w1.cell? ⟨w.heap.size, 4, none⟩ = some (.int .i64 (n4 : Int)) := HX1.out.cell (i := 4) (by simp)
    have c5 : w1.cell? ⟨w.heap.size, 5, none⟩ = some (.int .i64 (n5 : Int)) := HX1.out.cell (i := 5) (by simp)
    have c6 : w1.cell? ⟨w.heap.size, 6, none⟩ = some (.int .i64 (n6 : Int)) := HX1.out.cell (i := 6) (by simp)
    have c7 : w1.cell? ⟨w.heap.size, 7, none⟩ = some (.int .i64 (n7 : Int)) := HX1.out.cell (i := 7) (by simp)
    have c8 : w1.cell? ⟨w.heap.size, 8, none⟩ = some (.string bf) := HX1.out.cell (i := 8) (by simp)
    have c9 : w1.cell? ⟨w.heap.size, 9, none⟩ = some (.string af) := HX1.out.cell (i := 9) (by simp)
    go_wp2_with fail
    refine (HB.out w1).mono ?_
    rintro en w2 ⟨v, rfl, O2, E2⟩
    have HO2 := Lib.hid O2
    clear O2 c0 c1 c2 c3 c4 c5 c6 c7 c8 c9
    go_wp2_with fail
    go_ret2
    rw [HV.out.1, HV.out.2]
    exact ⟨_, rfl, own_base HO2.out (hE0.trans E1).le, hE0.trans (E1.trans E2)⟩
set_option maxHeartbeats 2000000 in
theorem spec_RecordBytes (e ls tx k p nx pg sl : Int) (bf af : ByteArray) (w : World) (hb : bf.size ≤ 1048576) (ha : af.size ≤ 1048576) (wl : (Lit.int .i64 ls).wf = true) :
    Calls Try.prog 47 #[.agg #[.int .i64 e, .int .i64 ls, .int .i64 tx, .int .i64 k, .int .i64 p, .int .i64 nx, .int .i64 pg, .int .i64 sl, .string bf, .string af]] w fun en w' => ∃ v, en = .returned (.tuple #[v, .int .i64 (rbC e ls tx k p nx pg sl bf af)]) ∧ w'.ownsRow w.heap.size 5 1 v (rbL e ls tx k p nx pg sl bf af).length ((rbL e ls tx k p nx pg sl bf af).map fun c => Value.int .u8 (c.toNat : Int)) ∧ Ext w w' := by
  have hX := Blk.new w 57 [.int .i64 e, .int .i64 ls, .int .i64 tx, .int .i64 k, .int .i64 p, .int .i64 nx, .int .i64 pg, .int .i64 sl, .string bf, .string af]
  have hE0 : Ext w (w.alloc (.cells #[.int .i64 e, .int .i64 ls, .int .i64 tx, .int .i64 k, .int .i64 p, .int .i64 nx, .int .i64 pg, .int .i64 sl, .string bf, .string af] 57)) := (by repeat (first | exact Ext.refl _ | assumption | refine Ext.alloc ?_ _ | refine Ext.drewN ?_ _ | refine Ext.drew ?_ | refine Ext.set ?_ (by dsimp only; omega) _ | refine Ext.trans ?_ (by assumption)))
  have hOK := spec_RecordOK e ls tx k p nx pg sl bf af (w.alloc (.cells #[.int .i64 e, .int .i64 ls, .int .i64 tx, .int .i64 k, .int .i64 p, .int .i64 nx, .int .i64 pg, .int .i64 sl, .string bf, .string af] 57)) (by omega) (by omega) wl
  rw [← recB_eq] at hOK
  have HOK := Lib.hid (hOK)
  rcases hk : recB e ls tx k p nx pg sl bf af with _ | _
  · have HV := Lib.hid (rb_no hk)
    have HK := Lib.hid hk
    clear hk
    go_enter Try.func47, Try.ntmps47
    go_wp2_with fail
    refine HOK.out.mono ?_
    rintro en w1 ⟨rfl, E1⟩
    rw [HK.out]
    go_wp2_with fail
    go_ret2
    rw [HV.out.1, HV.out.2]
    exact ⟨_, rfl, World.ownsRow_lit (base := w.heap.size) (e := 5) (size := 1) w1 #[] 0 (hE0.trans E1).le (by unfold maxLen; omega) rfl, (hE0.trans E1).alloc _⟩
  · have HV := Lib.hid (rb_yes hk)
    have HK := Lib.hid hk
    obtain ⟨r0, r1, r2, r3, r4, r5, r6, r7⟩ := rec_nats hk
    obtain ⟨n0, rfl⟩ := Int.eq_ofNat_of_zero_le r0.1
    obtain ⟨n1, rfl⟩ := Int.eq_ofNat_of_zero_le r1.1
    obtain ⟨n2, rfl⟩ := Int.eq_ofNat_of_zero_le r2.1
    obtain ⟨n3, rfl⟩ := Int.eq_ofNat_of_zero_le r3.1
    obtain ⟨n4, rfl⟩ := Int.eq_ofNat_of_zero_le r4.1
    obtain ⟨n5, rfl⟩ := Int.eq_ofNat_of_zero_le r5.1
    obtain ⟨n6, rfl⟩ := Int.eq_ofNat_of_zero_le r6.1
    obtain ⟨n7, rfl⟩ := Int.eq_ofNat_of_zero_le r7.1
    have HB := Lib.hid (fun W => spec_l04Bytes n0 n1 n2 n3 n4 n5 n6 n7 bf af W (by omega) (by omega) (by omega) (by omega) (by omega) (by omega) (by omega) (by omega) (by omega) (by omega))
    have HX := Lib.hid hX
    clear hk r0 r1 r2 r3 r4 r5 r6 r7 hX
    go_enter Try.func47, Try.ntmps47
    go_wp2_with fail
    refine HOK.out.mono ?_
    rintro en w1 ⟨rfl, E1⟩
    rw [HK.out]
    have HX1 := Lib.hid (HX.out.ext E1)
    have c0 : w1.cell? ⟨w.heap.size, 0, none⟩ = some (.int .i64 (n0 : Int)) := HX1.out.cell (i := 0) (by simp)
    have c1 : w1.cell? ⟨w.heap.size, 1, none⟩ = some (.int .i64 (n1 : Int)) := HX1.out.cell (i := 1) (by simp)
    have c2 : w1.cell? ⟨w.heap.size, 2, none⟩ = some (.int .i64 (n2 : Int)) := HX1.out.cell (i := 2) (by simp)
    have c3 : w1.cell? ⟨w.heap.size, 3, none⟩ = some (.int .i64 (n3 : Int)) := HX1.out.cell (i := 3) (by simp)
    have c4 : w1.cell? ⟨w.heap.size, 4, none⟩ = some (.int .i64 (n4 : Int)) := HX1.out.cell (i := 4) (by simp)
    have c5 : w1.cell? ⟨w.heap.size, 5, none⟩ = some (.int .i64 (n5 : Int)) := HX1.out.cell (i := 5) (by simp)
    have c6 : w1.cell? ⟨w.heap.size, 6, none⟩ = some (.int .i64 (n6 : Int)) := HX1.out.cell (i := 6) (by simp)
    have c7 : w1.cell? ⟨w.heap.size, 7, none⟩ = some (.int .i64 (n7 : Int)) := HX1.out.cell (i := 7) (by simp)
    have c8 : w1.cell? ⟨w.heap.size, 8, none⟩ = some (.string bf) := HX1.out.cell (i := 8) (by simp)
    have c9 : w1.cell? ⟨w.heap.size, 9, none⟩ = some (.string af) := HX1.out.cell (i := 9) (by simp)
    go_wp2_with fail
    refine (HB.out w1).mono ?_
    rintro en w2 ⟨v, rfl, O2, E2⟩
    have HO2 := Lib.hid O2
    clear O2 c0 c1 c2 c3 c4 c5 c6 c7 c8 c9
    go_wp2_with fail
    go_ret2
    rw [HV.out.1, HV.out.2]
    exact ⟨_, rfl, own_base HO2.out (hE0.trans E1).le, hE0.trans (E1.trans E2)⟩
set_option maxHeartbeats 4000000 in
theorem walk_FnExactRecordBytes (w : World) (e ls tx k p nx pg sl : Int) (bf af : ByteArray) (wl : (Lit.int .i64 ls).wf = true) (hb : bf.size ≤ maxLen) (ha : af.size ≤ maxLen) :
    Calls Try.prog 11 #[.agg #[.int .i64 e, .int .i64 ls, .int .i64 tx, .int .i64 k, .int .i64 p, .int .i64 nx, .int .i64 pg, .int .i64 sl, .string bf, .string af]] w fun en w' => en = .returned (.bool true) ∧ Ext w w' := by
  have hX := Blk.new w 54 [.int .i64 e, .int .i64 ls, .int .i64 tx, .int .i64 k, .int .i64 p, .int .i64 nx, .int .i64 pg, .int .i64 sl, .string bf, .string af]
  have hE0 : Ext w (w.alloc (.cells #[.int .i64 e, .int .i64 ls, .int .i64 tx, .int .i64 k, .int .i64 p, .int .i64 nx, .int .i64 pg, .int .i64 sl, .string bf, .string af] 54)) := (by repeat (first | exact Ext.refl _ | assumption | refine Ext.alloc ?_ _ | refine Ext.drewN ?_ _ | refine Ext.drew ?_ | refine Ext.set ?_ (by dsimp only; omega) _ | refine Ext.trans ?_ (by assumption)))
  have hI := fun W (h1 : bf.size ≤ 1048576) (h2 : af.size ≤ 1048576) => impl_RecordBytes e ls tx k p nx pg sl bf af W h1 h2 wl
  have hS := fun W (h1 : bf.size ≤ 1048576) (h2 : af.size ≤ 1048576) => spec_RecordBytes e ls tx k p nx pg sl bf af W h1 h2 wl
  have hL := fun (h1 : bf.size ≤ 1048576) (h2 : af.size ≤ 1048576) => rbL_len (e := e) (ls := ls) (tx := tx) (k := k) (p := p) (nx := nx) (pg := pg) (sl := sl) h1 h2
  generalize rbL e ls tx k p nx pg sl bf af = L at hI hS hL
  generalize rbC e ls tx k p nx pg sl bf af = C at hI hS
  have HI := Lib.hid hI
  have HS := Lib.hid hS
  have HX := Lib.hid hX
  have HE := Lib.hid hE0
  have hcc : (C != C) = false := by simp
  clear hI hS wl hX hE0
  go_enter Try.func11, Try.ntmps11
  go_wp2_with fail
  refine (szLogRecord_any e ls tx k p nx pg sl bf af _ hb ha).mono ?_
  rintro en w0 ⟨v, rfl, hv1, hv2, hG, E0⟩
  by_cases hv : v < 0
  · go_wp2_with fail
    go_ret
    exact ⟨rfl, HE.out.trans E0⟩
  have hG := hG (by omega)
  have g1 := hG.1
  have g2 := hG.2
  have hL := hL g1 g2
  have hnL : L.length ≤ 1099511627776 := by omega
  have HX0 := Lib.hid (HX.out.ext E0)
  have HE0 := Lib.hid (HE.out.trans E0)
  clear hG E0 HX HE
  have c0 : w0.cell? ⟨w.heap.size, 0, none⟩ = some (.int .i64 e) := HX0.out.cell (i := 0) (by simp)
  have c1 : w0.cell? ⟨w.heap.size, 1, none⟩ = some (.int .i64 ls) := HX0.out.cell (i := 1) (by simp)
  have c2 : w0.cell? ⟨w.heap.size, 2, none⟩ = some (.int .i64 tx) := HX0.out.cell (i := 2) (by simp)
  have c3 : w0.cell? ⟨w.heap.size, 3, none⟩ = some (.int .i64 k) := HX0.out.cell (i := 3) (by simp)
  have c4 : w0.cell? ⟨w.heap.size, 4, none⟩ = some (.int .i64 p) := HX0.out.cell (i := 4) (by simp)
  have c5 : w0.cell? ⟨w.heap.size, 5, none⟩ = some (.int .i64 nx) := HX0.out.cell (i := 5) (by simp)
  have c6 : w0.cell? ⟨w.heap.size, 6, none⟩ = some (.int .i64 pg) := HX0.out.cell (i := 6) (by simp)
  have c7 : w0.cell? ⟨w.heap.size, 7, none⟩ = some (.int .i64 sl) := HX0.out.cell (i := 7) (by simp)
  have c8 : w0.cell? ⟨w.heap.size, 8, none⟩ = some (.string bf) := HX0.out.cell (i := 8) (by simp)
  have c9 : w0.cell? ⟨w.heap.size, 9, none⟩ = some (.string af) := HX0.out.cell (i := 9) (by simp)
  go_wp2_with fail
  refine (toLogRecord_any e ls tx k p nx pg sl bf af w0).mono ?_
  rintro en wa ⟨rfl, Ea⟩
  go_wp2_with fail
  refine (HS.out wa g1 g2).mono ?_
  rintro en w1 ⟨v1, rfl, O1, E1⟩
  have HS1 := Lib.hid (Sl.own O1)
  have HE1 := Lib.hid (HE0.out.trans (Ea.trans E1))
  have HX1 := Lib.hid (HX0.out.ext (Ea.trans E1))
  clear O1 Ea E1 HX0 HE0 c0 c1 c2 c3 c4 c5 c6 c7 c8 c9
  have c0 : w1.cell? ⟨w.heap.size, 0, none⟩ = some (.int .i64 e) := HX1.out.cell (i := 0) (by simp)
  have c1 : w1.cell? ⟨w.heap.size, 1, none⟩ = some (.int .i64 ls) := HX1.out.cell (i := 1) (by simp)
  have c2 : w1.cell? ⟨w.heap.size, 2, none⟩ = some (.int .i64 tx) := HX1.out.cell (i := 2) (by simp)
  have c3 : w1.cell? ⟨w.heap.size, 3, none⟩ = some (.int .i64 k) := HX1.out.cell (i := 3) (by simp)
  have c4 : w1.cell? ⟨w.heap.size, 4, none⟩ = some (.int .i64 p) := HX1.out.cell (i := 4) (by simp)
  have c5 : w1.cell? ⟨w.heap.size, 5, none⟩ = some (.int .i64 nx) := HX1.out.cell (i := 5) (by simp)
  have c6 : w1.cell? ⟨w.heap.size, 6, none⟩ = some (.int .i64 pg) := HX1.out.cell (i := 6) (by simp)
  have c7 : w1.cell? ⟨w.heap.size, 7, none⟩ = some (.int .i64 sl) := HX1.out.cell (i := 7) (by simp)
  have c8 : w1.cell? ⟨w.heap.size, 8, none⟩ = some (.string bf) := HX1.out.cell (i := 8) (by simp)
  have c9 : w1.cell? ⟨w.heap.size, 9, none⟩ = some (.string af) := HX1.out.cell (i := 9) (by simp)
  go_wp2_with fail
  refine (toLogRecord_any e ls tx k p nx pg sl bf af w1).mono ?_
  rintro en wb ⟨rfl, Eb⟩
  go_wp2_with fail
  refine (HI.out wb g1 g2).mono ?_
  rintro en w2 ⟨v2, rfl, O2, E2⟩
  have HO2 := Lib.hid O2
  have HE2 := Lib.hid (Eb.trans E2)
  have hbb : w1.heap.size ≤ wb.heap.size := Eb.le
  clear O2 Eb E2 c0 c1 c2 c3 c4 c5 c6 c7 c8 c9
  go_wp2_with fail
  refine (eqByteS_sl (Sl.own HO2.out) (HS1.out.ext HE2.out) hnL).mono ?_
  rintro en w3 ⟨rfl, E3, -⟩
  have HO3 := Lib.hid (own_ext HO2.out E3)
  have HE3 := Lib.hid (HE2.out.trans E3)
  clear HO2 HE2 E3
  go_wp2_with fail
  refine (markByteS_any wb.heap.size L.length v2 1 _ w3 hnL (by omega) (by omega) HO3.out).mono ?_
  rintro en w4 ⟨rfl, O4, G4⟩
  have HO4 := Lib.hid O4
  have HE4 := Lib.hid (HE3.out.grown G4 (fun q hq => Nat.le_trans hbb (own_blk HO3.out q hq)))
  obtain ⟨A2, cap2, rfl⟩ := own_slice HO3.out
  clear O4 G4 HO3 HE3
  go_wp2_with fail
  refine (heldByteS_any A2 L.length cap2 1 w4 hnL (by omega) (by omega) (own_rd' HO4.out).2).mono ?_
  rintro en w5 ⟨rfl, rfl⟩
  have HX4 := Lib.hid (HX1.out.ext HE4.out)
  have c0 : w4.cell? ⟨w.heap.size, 0, none⟩ = some (.int .i64 e) := HX4.out.cell (i := 0) (by simp)
  have c1 : w4.cell? ⟨w.heap.size, 1, none⟩ = some (.int .i64 ls) := HX4.out.cell (i := 1) (by simp)
  have c2 : w4.cell? ⟨w.heap.size, 2, none⟩ = some (.int .i64 tx) := HX4.out.cell (i := 2) (by simp)
  have c3 : w4.cell? ⟨w.heap.size, 3, none⟩ = some (.int .i64 k) := HX4.out.cell (i := 3) (by simp)
  have c4 : w4.cell? ⟨w.heap.size, 4, none⟩ = some (.int .i64 p) := HX4.out.cell (i := 4) (by simp)
  have c5 : w4.cell? ⟨w.heap.size, 5, none⟩ = some (.int .i64 nx) := HX4.out.cell (i := 5) (by simp)
  have c6 : w4.cell? ⟨w.heap.size, 6, none⟩ = some (.int .i64 pg) := HX4.out.cell (i := 6) (by simp)
  have c7 : w4.cell? ⟨w.heap.size, 7, none⟩ = some (.int .i64 sl) := HX4.out.cell (i := 7) (by simp)
  have c8 : w4.cell? ⟨w.heap.size, 8, none⟩ = some (.string bf) := HX4.out.cell (i := 8) (by simp)
  have c9 : w4.cell? ⟨w.heap.size, 9, none⟩ = some (.string af) := HX4.out.cell (i := 9) (by simp)
  go_wp2_with fail
  refine (toLogRecord_any e ls tx k p nx pg sl bf af w4).mono ?_
  rintro en wd ⟨rfl, Ed⟩
  go_wp2_with fail
  refine (HI.out wd g1 g2).mono ?_
  rintro en we ⟨v9, rfl, O9, E9⟩
  have HO9 := Lib.hid O9
  have HOe := Lib.hid (own_ext HO4.out (Ed.trans E9))
  have HEe := Lib.hid (HE4.out.trans (Ed.trans E9))
  clear O9 E9 Ed HO4 HE4 c0 c1 c2 c3 c4 c5 c6 c7 c8 c9
  go_wp2_with fail
  refine (eqByteS_sl (Sl.own HO9.out) (HS1.out.ext HEe.out) hnL).mono ?_
  rintro en wf ⟨rfl, Ef, -⟩
  go_wp2_with fail
  refine (heldByteS_any A2 L.length cap2 1 wf hnL (by omega) (by omega) (own_rd' (own_ext HOe.out Ef)).2).mono ?_
  rintro en wg ⟨rfl, rfl⟩
  go_wp2_with fail
  go_ret
  exact ⟨rfl, HE1.out.trans (HEe.out.trans Ef)⟩
end Go.Proofs.Yteaefjicpefgnaa
