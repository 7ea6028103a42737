/- The walk of FnExactWaitsRound (printed by gen_law1.py). -/
import Derived.Test.YtnbfjkebakaigaaRound4
import Derived.Test.YtnbfjkebakaigaaRg
namespace Go.Proofs.Ytnbfjkebakaigaa
open Go.RowKit Go.Deep
set_option linter.unusedVariables false
set_option maxRecDepth 100000
set_option maxHeartbeats 4000000 in
theorem walk_FnExactWaitsRound (w : World) (Ah : Option Addr) (nh ph : Nat) (Aq : Option Addr) (nq pq : Nat) (lh : List CLock) (lq : List CWait) (q1h : lh.length = nh) (q2h : nh ≤ ph) (q3h : ph ≤ maxLen) (q4h : ∀ x ∈ lh, (Lit.int .i64 x.a).wf = true ∧ (Lit.int .i64 x.b).wf = true ∧ (Lit.int .i64 x.c).wf = true ∧ (Lit.int .i64 x.d).wf = true) (q5h : Rd w Ah (lh.flatMap CLock.cs)) (q1q : lq.length = nq) (q2q : nq ≤ pq) (q3q : pq ≤ maxLen) (q4q : ∀ x ∈ lq, (Lit.int .i64 x.a).wf = true ∧ (Lit.int .i64 x.b).wf = true) (q5q : Rd w Aq (lq.flatMap CWait.cs)) (tx : Int) (wtx : (Lit.int .i64 tx).wf = true) :
    Calls Try.prog 10 #[.agg #[.slice Ah nh ph, .slice Aq nq pq], .int .i64 tx] w fun e w' => e = .returned (.bool true) ∧ Ext w w' := by
  have HLh := Lib.hid q1h
  have HXh := Lib.hid q4h
  have HRh := Lib.hid q5h
  unfold maxLen at q3h
  have HLq := Lib.hid q1q
  have HXq := Lib.hid q4q
  have HRq := Lib.hid q5q
  unfold maxLen at q3q
  clear q1h q4h q5h q1q q4q q5q 
  have hB := Blk.new w 66 [.slice Ah nh ph, .slice Aq nq pq]
  have hE0 : Ext w (w.alloc (.cells #[.slice Ah nh ph, .slice Aq nq pq] 66)) := (by repeat (first | exact Ext.refl _ | assumption | refine Ext.alloc ?_ _ | refine Ext.drewN ?_ _ | refine Ext.drew ?_ | refine Ext.set ?_ (by dsimp only; omega) _ | refine Ext.trans ?_ (by assumption)))
  have hI := fun W bh bq (Bh : Blk W bh 125 (lh.flatMap CLock.cs)) (Bq : Blk W bq 128 (lq.flatMap CWait.cs)) (hnh : nh ≤ 1099511627776) (hnq : nq ≤ 1099511627776) => impl_WaitsRound (some ⟨bh, 0, none⟩) nh nh (some ⟨bq, 0, none⟩) nq nq lh lq tx W HLh.out HLq.out (Nat.le_refl _) hnh hnq Bh.rd Bq.rd
  have hS := fun W bh bq (Bh : Blk W bh 125 (lh.flatMap CLock.cs)) (Bq : Blk W bq 128 (lq.flatMap CWait.cs)) (hnh : nh ≤ 1099511627776) (hnq : nq ≤ 1099511627776) => spec_WaitsRound (some ⟨bh, 0, none⟩) nh nh (some ⟨bq, 0, none⟩) nq nq lh lq tx W HLh.out HLq.out (Nat.le_refl _) hnh hnq Bh.rd Bq.rd
  generalize wrV lh lq tx = r0 at hI hS
  generalize wrC lh lq tx = r1 at hI hS
  have HI := Lib.hid hI
  have HS := Lib.hid hS
  clear hI hS
  have hr0 : (r0 != r0) = false := by simp
  have hr1 : (r1 != r1) = false := by simp
  go_enter Try.func10, Try.ntmps10
  go_wp2_with fail
  refine (szLocks_any Ah nh ph Aq nq pq lh lq 1048576 _ HLh.out HLq.out (by omega) (by omega) (by omega) (by omega)  (HRh.out.ext hE0) (HRq.out.ext hE0)).mono ?_
  rintro e w0 ⟨v, rfl, hv1, hv2, hG, E0⟩
  have HG := Lib.hid hG
  clear hG
  by_cases hv : v < 0
  · go_wp2_with fail
    go_ret
    exact ⟨rfl, hE0.trans E0⟩
  obtain ⟨hmh, hmq⟩ := HG.out (by omega)
  have hnh : nh ≤ 1099511627776 := by omega
  have hnq : nq ≤ 1099511627776 := by omega
  have HB0 := Lib.hid (hB.ext E0)
  have HR0h := Lib.hid ((HRh.out.ext hE0).ext E0)
  have HR0q := Lib.hid ((HRq.out.ext hE0).ext E0)
  have HE0 := Lib.hid (hE0.trans E0)
  clear hB hE0 E0
  obtain ⟨c0, c1⟩ := HB0.out.cells2
  go_wp2_with fail
  refine (toLocks_any Ah nh ph Aq nq pq lh lq w0 HLh.out HLq.out hnh hnq (HR0h.out) (HR0q.out)).mono ?_
  rintro e wa ⟨yh, yq, rfl, -, Bh, -, Bq, Ea⟩
  clear c0 c1
  go_wp2_with fail
  refine (HS.out wa _ _ Bh Bq hnh hnq).mono ?_
  rintro e w1 ⟨rfl, E1⟩
  have HE1 := Lib.hid (HE0.out.trans (Ea.trans E1))
  have HB1 := Lib.hid (HB0.out.ext (Ea.trans E1))
  have HR1h := Lib.hid (HR0h.out.ext (Ea.trans E1))
  have HR1q := Lib.hid (HR0q.out.ext (Ea.trans E1))
  clear Ea E1 HB0 HE0 Bh HR0h Bq HR0q
  obtain ⟨c0, c1⟩ := HB1.out.cells2
  go_wp2_with fail
  refine (toLocks_any Ah nh ph Aq nq pq lh lq w1 HLh.out HLq.out hnh hnq (HR1h.out) (HR1q.out)).mono ?_
  rintro e wb ⟨bh, bq, rfl, -, Bh, -, Bq, Eb⟩
  clear c0 c1
  have HX1 := Lib.hid (Blk.new wb 57 [.slice (some ⟨bh, 0, none⟩) nh nh, .slice (some ⟨bq, 0, none⟩) nq nq])
  have HBh := Lib.hid (Bh.alloc (.cells #[.slice (some ⟨bh, 0, none⟩) nh nh, .slice (some ⟨bq, 0, none⟩) nq nq] 57))
  have HBq := Lib.hid (Bq.alloc (.cells #[.slice (some ⟨bh, 0, none⟩) nh nh, .slice (some ⟨bq, 0, none⟩) nq nq] 57))
  have HEb := Lib.hid (show Ext w1 (wb.alloc (.cells #[.slice (some ⟨bh, 0, none⟩) nh nh, .slice (some ⟨bq, 0, none⟩) nq nq] 57)) from Eb.alloc _)
  clear Eb Bh Bq
  generalize hxx : wb.heap.size = bx at HX1 ⊢
  go_wp2_with fail
  have HIb := Lib.hid (HI.out _ _ _ HBh.out HBq.out hnh hnq)
  generalize wb.alloc (.cells #[.slice (some ⟨bh, 0, none⟩) nh nh, .slice (some ⟨bq, 0, none⟩) nq nq] 57) = wc at HX1 HBh HBq HEb HIb ⊢
  clear hxx
  obtain ⟨x0, x1⟩ := HX1.out.cells2
  refine HIb.out.mono ?_
  rintro e w2 ⟨rfl, E2⟩
  have HE2 := Lib.hid E2
  clear E2 HIb x0 x1
  obtain ⟨x0, x1⟩ := (HX1.out.ext HE2.out).cells2
  obtain ⟨c0, c1⟩ := (HB1.out.ext (HEb.out.trans HE2.out)).cells2
  go_wp2_with fail
  refine rg_start (by kernel_rfl) (Ext.refl w2) (fun hE0 => ?_)
  (refine rg_take (v := ?_) 0 rfl (by kernel_rfl) (by kernel_rfl) (by kernel_rfl) (fun _ _ _ h => h) (by rfl) (by assumption) (fun W hW => ?_) ?_; rotate_left; (focus (have k0 := hW.cell x0; have k1 := hW.cell x1; go_simp; try with_reducible rfl)); (try simp only [List.setIfInBounds_toArray, List.set_cons_succ, List.set_cons_zero]))
  (refine rg_take (v := ?_) 1 rfl (by kernel_rfl) (by kernel_rfl) (by kernel_rfl) (fun _ _ _ h => h) (by rfl) (by assumption) (fun W hW => ?_) ?_; rotate_left; (focus (have k0 := hW.cell c0; have k1 := hW.cell c1; go_simp; try with_reducible rfl)); (try simp only [List.setIfInBounds_toArray, List.set_cons_succ, List.set_cons_zero]))
  (refine rg_one 2 (by kernel_rfl) rfl (by rfl) (fun K hK => ?_); go_simp)
  refine (toLocks_any Ah nh ph Aq nq pq lh lq _ HLh.out HLq.out hnh hnq ((HR1h.out.ext (HEb.out.trans HE2.out)).ext hE0) ((HR1q.out.ext (HEb.out.trans HE2.out)).ext hE0)).mono ?_
  rintro e w4 ⟨dh, dq, rfl, -, Dh, -, Dq, E4⟩
  refine hK _ _ (hE0.trans E4) (fun hE4 => ?_)
  clear hK K
  try simp only [List.setIfInBounds_toArray, List.set_cons_succ, List.set_cons_zero]
  (refine rg_one 3 (by kernel_rfl) rfl (by rfl) (fun K hK => ?_); go_simp)
  refine (eqLocks_same _ _ nh nh nh _ _ nq nq nq lh lq w4 HLh.out HLq.out hnh hnq (HBh.out.ext (HE2.out.trans hE4)).rd (HBq.out.ext (HE2.out.trans hE4)).rd Dh.rd Dq.rd).mono ?_
  rintro e w5 ⟨rfl, E5⟩
  refine hK _ _ (hE4.trans E5) (fun hE5 => ?_)
  clear hK K
  try simp only [List.setIfInBounds_toArray, List.set_cons_succ, List.set_cons_zero]
  (refine rg_take (v := ?_) 4 rfl (by kernel_rfl) (by kernel_rfl) (by kernel_rfl) (fun _ _ _ h => h) (by rfl) (by assumption) (fun W hW => ?_) ?_; rotate_left; (focus (go_simp; try with_reducible rfl)); (try simp only [List.setIfInBounds_toArray, List.set_cons_succ, List.set_cons_zero]))
  refine rg_done (by kernel_rfl) ?_
  go_wp2_with fail
  go_ret
  exact ⟨rfl, HE1.out.trans (HEb.out.trans (HE2.out.trans hE5))⟩
end Go.Proofs.Ytnbfjkebakaigaa
