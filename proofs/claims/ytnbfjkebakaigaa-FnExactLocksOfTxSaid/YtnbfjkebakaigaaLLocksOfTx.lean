/- The walk of FnExactLocksOfTx. -/
import Derived.Test.YtnbfjkebakaigaaMarkL
import Derived.Test.YtnbfjkebakaigaaOpenCLocks
import Derived.Test.YtnbfjkebakaigaaRg
namespace Go.Proofs.Ytnbfjkebakaigaa
open Go.RowKit Go.Deep
set_option linter.unusedVariables false
set_option maxRecDepth 100000
set_option maxHeartbeats 4000000 in
theorem walk_FnExactLocksOfTx (w : World) (Ah : Option Addr) (nh ph : Nat) (Aq : Option Addr) (nq pq : Nat) (lh : List CLock) (lq : List CWait) (q1h : lh.length = nh) (q2h : nh ≤ ph) (q3h : ph ≤ maxLen) (q4h : ∀ x ∈ lh, (Lit.int .i64 x.a).wf = true ∧ (Lit.int .i64 x.b).wf = true ∧ (Lit.int .i64 x.c).wf = true ∧ (Lit.int .i64 x.d).wf = true) (q5h : Rd w Ah (lh.flatMap CLock.cs)) (q1q : lq.length = nq) (q2q : nq ≤ pq) (q3q : pq ≤ maxLen) (q4q : ∀ x ∈ lq, (Lit.int .i64 x.a).wf = true ∧ (Lit.int .i64 x.b).wf = true) (q5q : Rd w Aq (lq.flatMap CWait.cs)) (tx : Int) (wtx : (Lit.int .i64 tx).wf = true) :
    Calls Try.prog 11 #[.agg #[.slice Ah nh ph, .slice Aq nq pq], .int .i64 tx] w fun e w' => e = .returned (.bool true) ∧ Ext w w' := by
  have HLh := Lib.hid q1h
  have HRh := Lib.hid q5h
  unfold maxLen at q3h
  have HLq := Lib.hid q1q
  have HRq := Lib.hid q5q
  unfold maxLen at q3q
  clear q1h q4h q5h q1q q4q q5q
  have hB := Blk.new w 66 [.slice Ah nh ph, .slice Aq nq pq]
  have hE0 : Ext w (w.alloc (.cells #[.slice Ah nh ph, .slice Aq nq pq] 66)) := (by repeat (first | exact Ext.refl _ | assumption | refine Ext.alloc ?_ _ | refine Ext.drewN ?_ _ | refine Ext.drew ?_ | refine Ext.set ?_ (by dsimp only; omega) _ | refine Ext.trans ?_ (by assumption)))
  have hI := fun W bh bq (Bh : Blk W bh 125 (lh.flatMap CLock.cs)) (Bq : Blk W bq 128 (lq.flatMap CWait.cs)) (hnh : nh ≤ 1099511627776) (hnq : nq ≤ 1099511627776) => impl_LocksOfTx bh nh nh (some ⟨bq, 0, none⟩) nq nq lh lq tx W HLh.out HLq.out (Nat.le_refl _) hnh hnq Bh.rd Bq.rd
  have hS := fun W bh bq (Bh : Blk W bh 125 (lh.flatMap CLock.cs)) (Bq : Blk W bq 128 (lq.flatMap CWait.cs)) (hnh : nh ≤ 1099511627776) (hnq : nq ≤ 1099511627776) => spec_LocksOfTx bh nh nh (some ⟨bq, 0, none⟩) nq nq lh lq tx W HLh.out HLq.out (Nat.le_refl _) hnh hnq Bh.rd Bq.rd
  have hLL := otL_len lh lq tx
  unfold OtPost at hI hS
  generalize otL lh lq tx = L at hI hS hLL
  generalize otC lh lq tx = C at hI hS
  have HI := Lib.hid hI
  have HS := Lib.hid hS
  clear hI hS
  have hcc : (C != C) = false := by simp
  go_enter Try.func11, Try.ntmps11
  go_wp2_with fail
  refine (szLocks_any Ah nh ph Aq nq pq lh lq 1048576 _ HLh.out HLq.out (by omega) (by omega) (by omega) (by omega) (HRh.out.ext hE0) (HRq.out.ext hE0)).mono ?_
  rintro e w0 ⟨v, rfl, hv1, hv2, hG, E0⟩
  have HG := Lib.hid hG
  clear hG
  by_cases hv : v < 0
  · go_wp2_with fail
    go_ret
    exact ⟨rfl, hE0.trans E0⟩
  obtain ⟨hmh, hmq⟩ := HG.out (by omega)
  have hnh : nh ≤ 1099511627776 := by omega
  have hnq : nq ≤ 1099511627776 := by omega
  have hLn : L.length ≤ 1048576 := by rw [HLh.out] at hLL; omega
  have hLn2 : L.length ≤ 1099511627776 := by omega
  have HB0 := Lib.hid (hB.ext E0)
  have HR0h := Lib.hid ((HRh.out.ext hE0).ext E0)
  have HR0q := Lib.hid ((HRq.out.ext hE0).ext E0)
  have HE0 := Lib.hid (hE0.trans E0)
  clear hB hE0 E0 hLL
  obtain ⟨c0, c1⟩ := HB0.out.cells2
  go_wp2_with fail
  refine (toLocks_any Ah nh ph Aq nq pq lh lq w0 HLh.out HLq.out hnh hnq (HR0h.out) (HR0q.out)).mono ?_
  rintro e wa ⟨yh, yq, rfl, -, Bh, -, Bq, Ea⟩
  clear c0 c1
  go_wp2_with fail
  refine (HS.out wa _ _ Bh Bq hnh hnq).mono ?_
  rintro e w1 ⟨v1, rfl, O1, E1⟩
  have HV1 := Lib.hid (LkS.own O1)
  have HE1 := Lib.hid (HE0.out.trans (Ea.trans E1))
  have HB1 := Lib.hid (HB0.out.ext (Ea.trans E1))
  have HR1h := Lib.hid (HR0h.out.ext (Ea.trans E1))
  have HR1q := Lib.hid (HR0q.out.ext (Ea.trans E1))
  clear Ea E1 HB0 HE0 Bh HR0h Bq HR0q O1
  obtain ⟨c0, c1⟩ := HB1.out.cells2
  go_wp2_with fail
  refine (toLocks_any Ah nh ph Aq nq pq lh lq w1 HLh.out HLq.out hnh hnq (HR1h.out) (HR1q.out)).mono ?_
  rintro e wb ⟨bh, bq, rfl, hbh, Bh, hbq, Bq, Eb⟩
  clear c0 c1
  have hbne : bh ≠ bq := by
    intro e
    have h1 := Bh
    rw [e] at h1
    have h2 := h1.symm.trans Bq
    simp at h2
  have HX1 := Lib.hid (Blk.new wb 57 [.slice (some ⟨bh, 0, none⟩) nh nh, .slice (some ⟨bq, 0, none⟩) nq nq])
  have HBh := Lib.hid (Bh.alloc (.cells #[.slice (some ⟨bh, 0, none⟩) nh nh, .slice (some ⟨bq, 0, none⟩) nq nq] 57))
  have HBq := Lib.hid (Bq.alloc (.cells #[.slice (some ⟨bh, 0, none⟩) nh nh, .slice (some ⟨bq, 0, none⟩) nq nq] 57))
  have HEb := Lib.hid (show Ext w1 (wb.alloc (.cells #[.slice (some ⟨bh, 0, none⟩) nh nh, .slice (some ⟨bq, 0, none⟩) nq nq] 57)) from Eb.alloc _)
  clear Eb Bh Bq
  generalize hxx : wb.heap.size = bx at HX1 ⊢
  go_wp2_with fail
  have HIb := Lib.hid (HI.out _ _ _ HBh.out HBq.out hnh hnq)
  generalize wb.alloc (.cells #[.slice (some ⟨bh, 0, none⟩) nh nh, .slice (some ⟨bq, 0, none⟩) nq nq] 57) = wc at HX1 HBh HBq HEb HIb ⊢
  clear hxx
  have hblt : bh < wc.heap.size := HBh.out.lt
  have hqlt : bq < wc.heap.size := HBq.out.lt
  have hxlt : bx < wc.heap.size := HX1.out.lt
  obtain ⟨x0, x1⟩ := HX1.out.cells2
  refine HIb.out.mono ?_
  rintro e w2 ⟨v2, rfl, O2, E2⟩
  have HO2 := Lib.hid O2
  have HE2 := Lib.hid E2
  clear E2 HIb x0 x1 O2
  go_wp2_with fail
  refine (eqLockS_lk (LkS.own HO2.out) (HV1.out.ext (HEb.out.trans HE2.out)) hLn2).mono ?_
  rintro e w3 ⟨rfl, E3⟩
  have HE3 := Lib.hid (HE2.out.trans E3)
  have HO3 := Lib.hid (own_ext HO2.out E3)
  clear E3 HO2 HE2
  obtain ⟨x0, x1⟩ := (HX1.out.ext HE3.out).cells2
  obtain ⟨c0, c1⟩ := (HB1.out.ext (HEb.out.trans HE3.out)).cells2
  go_wp2_with fail
  refine rg_start (by kernel_rfl) (Ext.refl w3) (fun hE0 => ?_)
  (refine rg_take (v := ?_) 0 rfl (by kernel_rfl) (by kernel_rfl) (by kernel_rfl) (fun _ _ _ h => h) (by rfl) (by assumption) (fun W hW => ?_) ?_; rotate_left; (focus (have k0 := hW.cell x0; have k1 := hW.cell x1; go_simp; try with_reducible rfl)); (try simp only [List.setIfInBounds_toArray, List.set_cons_succ, List.set_cons_zero]))
  (refine rg_take (v := ?_) 1 rfl (by kernel_rfl) (by kernel_rfl) (by kernel_rfl) (fun _ _ _ h => h) (by rfl) (by assumption) (fun W hW => ?_) ?_; rotate_left; (focus (have k0 := hW.cell c0; have k1 := hW.cell c1; go_simp; try with_reducible rfl)); (try simp only [List.setIfInBounds_toArray, List.set_cons_succ, List.set_cons_zero]))
  (refine rg_one 2 (by kernel_rfl) rfl (by rfl) (fun K hK => ?_); go_simp)
  refine (toLocks_any Ah nh ph Aq nq pq lh lq _ HLh.out HLq.out hnh hnq ((HR1h.out.ext (HEb.out.trans HE3.out)).ext hE0) ((HR1q.out.ext (HEb.out.trans HE3.out)).ext hE0)).mono ?_
  rintro e w4 ⟨dh, dq, rfl, -, Dh, -, Dq, E4⟩
  refine hK _ _ (hE0.trans E4) (fun hE4 => ?_)
  clear hK K
  try simp only [List.setIfInBounds_toArray, List.set_cons_succ, List.set_cons_zero]
  (refine rg_one 3 (by kernel_rfl) rfl (by rfl) (fun K hK => ?_); go_simp)
  refine (eqLocks_same _ _ nh nh nh _ _ nq nq nq lh lq w4 HLh.out HLq.out hnh hnq (HBh.out.ext (HE3.out.trans hE4)).rd (HBq.out.ext (HE3.out.trans hE4)).rd Dh.rd Dq.rd).mono ?_
  rintro e w5 ⟨rfl, E5⟩
  refine hK _ _ (hE4.trans E5) (fun hE5 => ?_)
  clear hK K
  try simp only [List.setIfInBounds_toArray, List.set_cons_succ, List.set_cons_zero]
  (refine rg_take (v := ?_) 4 rfl (by kernel_rfl) (by kernel_rfl) (by kernel_rfl) (fun _ _ _ h => h) (by rfl) (by assumption) (fun W hW => ?_) ?_; rotate_left; (focus (go_simp; try with_reducible rfl)); (try simp only [List.setIfInBounds_toArray, List.set_cons_succ, List.set_cons_zero]))
  refine rg_done (by kernel_rfl) ?_
  clear c0 c1
  have HE5 := Lib.hid (HE3.out.trans hE5)
  have HO5 := Lib.hid (own_ext HO3.out hE5)
  obtain ⟨x0, x1⟩ := (HX1.out.ext HE5.out).cells2
  clear Dh Dq E4 hE4 hE5 E5 hE0 HO3 HE3
  have HM := Lib.hid (markLocks_any bh nh nh bq nq nq lh lq 1 w5 HLh.out HLq.out (by omega) (by omega) (by omega) (by omega) hbne (HBh.out.ext HE5.out) (HBq.out.ext HE5.out))
  go_wp2_with fail
  refine HM.out.mono ?_
  rintro e w6 ⟨rfl, wx, wy, Ex, Gx, Gy⟩
  have hEb := HEb.out.le
  have hE5 := HE5.out.le
  have hExs := Ex.le
  have hGxs := Gx.size
  have hob : ∀ i, v2.ownBlock = some i → wc.heap.size ≤ i := own_blk HO5.out
  have HO6 := Lib.hid (own_far (own_far (own_ext HO5.out Ex) Gx (by intro e; have := hob _ e; omega)) Gy (by intro e; have := hob _ e; omega))
  have HE6 := Lib.hid ((((HEb.out.trans HE5.out).trans Ex).grownBy Gx hbh).grownBy Gy hbq)
  have HB6 := Lib.hid (HB1.out.ext HE6.out)
  have hk0 : ¬ (1 : Int) + 4 * (nh : Int) + 2 * (nq : Int) < 0 := by omega
  clear HO5 HE5 Ex Gx Gy HM x0 x1 hEb hE5 hExs hGxs
  go_wp2_with fail
  refine (eqLockS_lk (LkS.own HO6.out) (HV1.out.ext HE6.out) hLn2).mono ?_
  rintro e w7 ⟨rfl, E7⟩
  have HE7 := Lib.hid (HE6.out.trans E7)
  have HO7 := Lib.hid (own_ext HO6.out E7)
  clear E7 HO6 HE6
  go_wp2_with fail
  refine (markLockS_own wc.heap.size v2 1 L w7 hLn (by omega) (by omega) HO7.out).mono ?_
  rintro e w8 ⟨rfl, O8, G8⟩
  have hcw : w1.heap.size ≤ wc.heap.size := HEb.out.le
  have HE8 := Lib.hid (HE7.out.grown G8 (fun k hk => by have := hob k hk; omega))
  have HO8 := Lib.hid O8
  clear O8 G8 HO7 HE7 hob
  obtain ⟨A2, cap2, rfl, hr2⟩ := own_rdL HO8.out
  have HR2 := Lib.hid hr2
  clear hr2
  go_wp2_with fail
  refine (heldLockS_any A2 L.length cap2 1 w8 hLn (by omega) (by omega) HR2.out).mono ?_
  rintro e w9 ⟨rfl, E9⟩
  have HE9 := Lib.hid (HE8.out.trans E9)
  have HR9 := Lib.hid (HR2.out.ext E9)
  have hne : ((1 : Int) + 4 * (L.length : Int) != 1 + 4 * (L.length : Int)) = false := by simp
  have hk1 : ¬ (1 : Int) + 4 * (L.length : Int) < 0 := by omega
  clear E9 HR2 HE8 HO8
  obtain ⟨c0, c1⟩ := (HB1.out.ext HE9.out).cells2
  go_wp2_with fail
  refine (toLocks_any Ah nh ph Aq nq pq lh lq w9 HLh.out HLq.out hnh hnq (HR1h.out.ext HE9.out) (HR1q.out.ext HE9.out)).mono ?_
  rintro e wd ⟨zh, zq, rfl, -, Bzh, -, Bzq, Ed⟩
  clear c0 c1
  go_wp2_with fail
  refine (HI.out wd _ _ Bzh Bzq hnh hnq).mono ?_
  rintro e wf ⟨vf, rfl, Of, Ef⟩
  have HOf := Lib.hid Of
  have HEf := Lib.hid (Ed.trans Ef)
  clear Of Bzh Bzq Ed Ef
  go_wp2_with fail
  refine (eqLockS_lk (LkS.own HOf.out) (HV1.out.ext (HE9.out.trans HEf.out)) hLn2).mono ?_
  rintro e wg ⟨rfl, Eg⟩
  go_wp2_with fail
  refine (heldLockS_any A2 L.length cap2 1 wg hLn (by omega) (by omega) (HR9.out.ext (HEf.out.trans Eg))).mono ?_
  rintro e wh ⟨rfl, Eh⟩
  go_wp2_with fail
  go_ret
  exact ⟨rfl, HE1.out.trans (HE9.out.trans (HEf.out.trans (Eg.trans Eh)))⟩
end Go.Proofs.Ytnbfjkebakaigaa
