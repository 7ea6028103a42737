/- The walks of the laws' helpers over Locks (printed by gen_comp.py). -/
import Derived.Test.YtnbfjkebakaigaaFlatLock
import Derived.Test.YtnbfjkebakaigaaFlatWait
namespace Go.Proofs.Ytnbfjkebakaigaa
open Go.RowKit Go.Deep
set_option linter.unusedVariables false
set_option maxRecDepth 100000
set_option maxHeartbeats 2000000 in
theorem szLocks_any (Ah : Option Addr) (nh ph : Nat) (Aq : Option Addr) (nq pq : Nat) (lh : List CLock) (lq : List CWait) (left : Int) (w : World) (hlh : lh.length = nh) (hlq : lq.length = nq) (hnh : nh ≤ 9223372036854775807) (hnq : nq ≤ 9223372036854775807) (h0 : 0 ≤ left) (h1 : left ≤ 1048576)  (hrh : Rd w Ah (lh.flatMap CLock.cs)) (hrq : Rd w Aq (lq.flatMap CWait.cs)) :
    Calls Try.prog 38 #[.agg #[.slice Ah nh ph, .slice Aq nq pq], .int .i64 left] w (SzPost w left ((nh : Int) ≤ left ∧ (nq : Int) ≤ left)) := by
  have HLh := Lib.hid hlh
  have HLq := Lib.hid hlq
  have HRh := Lib.hid hrh
  have HRq := Lib.hid hrq
  have HB := Lib.hid (Blk.new w 66 [.slice Ah nh ph, .slice Aq nq pq])
  clear hlh hlq hrh hrq 
  go_enter Try.func38, Try.ntmps38
  go_wp2_with fail
  refine (szLockS_any Ah nh ph left _ hnh (by omega) (by omega)).mono ?_
  rintro e w0 ⟨v0, rfl, g0, i0, hG0, E0⟩
  have HG0 := Lib.hid hG0
  clear hG0
  by_cases hv0 : v0 < 0
  · go_wp2_with fail
    go_ret
    exact ⟨-1, rfl, by omega, by omega, fun h => by omega, (by repeat (first | exact Ext.refl _ | assumption | refine Ext.alloc ?_ _ | refine Ext.drewN ?_ _ | refine Ext.drew ?_ | refine Ext.set ?_ (by dsimp only; omega) _ | refine Ext.trans ?_ (by assumption)))⟩
  obtain ⟨z0, z1⟩ := (HB.out.ext E0).cells2
  go_wp2_with fail
  refine (szWaitS_any Aq nq pq v0 _ hnq (by omega) (by omega)).mono ?_
  rintro e w1 ⟨v1, rfl, g1, i1, hG1, E1⟩
  have HG1 := Lib.hid hG1
  clear hG1
  by_cases hv1 : v1 < 0
  · go_wp2_with fail
    go_ret
    exact ⟨-1, rfl, by omega, by omega, fun h => by omega, (by repeat (first | exact Ext.refl _ | assumption | refine Ext.alloc ?_ _ | refine Ext.drewN ?_ _ | refine Ext.drew ?_ | refine Ext.set ?_ (by dsimp only; omega) _ | refine Ext.trans ?_ (by assumption)))⟩
  clear z0 z1
  go_wp2_with fail
  go_ret
  exact ⟨v1, rfl, by omega, by omega, fun _ => ⟨(by have := HG0.out (by omega); omega), (by have := HG1.out (by omega); omega)⟩, (by repeat (first | exact Ext.refl _ | assumption | refine Ext.alloc ?_ _ | refine Ext.drewN ?_ _ | refine Ext.drew ?_ | refine Ext.set ?_ (by dsimp only; omega) _ | refine Ext.trans ?_ (by assumption)))⟩
/-- one in memory of its own -/
def FreshLocks (w : World) (Th : TypeId) (nh : Nat) (Tq : TypeId) (nq : Nat)  (lh : List CLock) (lq : List CWait) (e : Ending) (w' : World) : Prop :=
  ∃ bh bq, e = .returned (.agg #[.slice (some ⟨bh, 0, none⟩) nh nh, .slice (some ⟨bq, 0, none⟩) nq nq]) ∧ w.heap.size ≤ bh ∧ Blk w' bh Th (lh.flatMap CLock.cs) ∧ w.heap.size ≤ bq ∧ Blk w' bq Tq (lq.flatMap CWait.cs) ∧ Ext w w'
set_option maxHeartbeats 2000000 in
theorem toLocks_any (Ah : Option Addr) (nh ph : Nat) (Aq : Option Addr) (nq pq : Nat) (lh : List CLock) (lq : List CWait) (w : World) (hlh : lh.length = nh) (hlq : lq.length = nq) (hnh : nh ≤ 1099511627776) (hnq : nq ≤ 1099511627776) (hrh : Rd w Ah (lh.flatMap CLock.cs)) (hrq : Rd w Aq (lq.flatMap CWait.cs)) :
    Calls Try.prog 40 #[.agg #[.slice Ah nh ph, .slice Aq nq pq]] w (FreshLocks w 125 nh 128 nq  lh lq) := by
  have HLh := Lib.hid hlh
  have HLq := Lib.hid hlq
  clear hlh hlq
  have HX0 := Lib.hid (((Blk.new w 66 [.slice Ah nh ph, .slice Aq nq pq]).alloc (.cells #[.slice none 0 0, .slice none 0 0] 57)).alloc (.cells #[.slice none 0 0, .slice none 0 0] 57))
  have hR := (Blk.new (w.alloc (.cells #[.slice Ah nh ph, .slice Aq nq pq] 66)) 57 [.slice none 0 0, .slice none 0 0]).alloc (.cells #[.slice none 0 0, .slice none 0 0] 57)
  rw [World.size_alloc] at hR
  have hO := Blk.new ((w.alloc (.cells #[.slice Ah nh ph, .slice Aq nq pq] 66)).alloc (.cells #[.slice none 0 0, .slice none 0 0] 57)) 57 [.slice none 0 0, .slice none 0 0]
  rw [World.size_alloc, World.size_alloc] at hO
  have HE0 := Lib.hid (show Ext w (((w.alloc (.cells #[.slice Ah nh ph, .slice Aq nq pq] 66)).alloc (.cells #[.slice none 0 0, .slice none 0 0] 57)).alloc (.cells #[.slice none 0 0, .slice none 0 0] 57)) from (by repeat (first | exact Ext.refl _ | assumption | refine Ext.alloc ?_ _ | refine Ext.drewN ?_ _ | refine Ext.drew ?_ | refine Ext.set ?_ (by dsimp only; omega) _ | refine Ext.trans ?_ (by assumption))))
  have HR0 := Lib.hid hR
  have HO0 := Lib.hid hO
  clear hR hO
  go_enter Try.func40, Try.ntmps40
  go_wp2_with fail
  generalize ((w.alloc (.cells #[.slice Ah nh ph, .slice Aq nq pq] 66)).alloc (.cells #[.slice none 0 0, .slice none 0 0] 57)).alloc (.cells #[.slice none 0 0, .slice none 0 0] 57) = y0 at HX0 HR0 HO0 HE0 ⊢
  have HQh := Lib.hid (hrh.ext HE0.out)
  refine (toLockS_any Ah nh ph lh _ HLh.out hnh HQh.out).mono ?_
  rintro e w0 ⟨rfl, hF, E⟩
  have HFh := Lib.hid hF
  have HG0 := Lib.hid (HE0.out.trans E)
  have hX := HX0.out.ext E
  have hR := HR0.out.ext E
  have hO := HO0.out.ext E
  have hbh : w.heap.size ≤ y0.heap.size := HE0.out.le
  have hch : w.heap.size + 1 + 1 < y0.heap.size := HO0.out.lt
  generalize y0.heap.size = bh at HFh hbh hch ⊢
  obtain ⟨x0, x1⟩ := hX.cells2
  obtain ⟨r0, r1⟩ := hR.cells2
  obtain ⟨o0, o1⟩ := hO.cells2
  have s0 := hO.frozen 0
  have u0 := hR.frozen 0
  have s1 := hO.frozen 1
  have u1 := hR.frozen 1
  have HO1 := Lib.hid (show Blk (w0.setCell ⟨w.heap.size + 1 + 1, 0, none⟩ (.slice (some ⟨bh, 0, none⟩) nh nh)) (w.heap.size + 1 + 1) 57 [.slice (some ⟨bh, 0, none⟩) nh nh, .slice none 0 0] from (hO.set 0 (.slice (some ⟨bh, 0, none⟩) nh nh)))
  have HX1 := Lib.hid (show Blk (w0.setCell ⟨w.heap.size + 1 + 1, 0, none⟩ (.slice (some ⟨bh, 0, none⟩) nh nh)) w.heap.size 66 [.slice Ah nh ph, .slice Aq nq pq] from (Blk.far hX (by dsimp only; omega) _))
  have HR1 := Lib.hid (show Blk (w0.setCell ⟨w.heap.size + 1 + 1, 0, none⟩ (.slice (some ⟨bh, 0, none⟩) nh nh)) (w.heap.size + 1) 57 [.slice none 0 0, .slice none 0 0] from (Blk.far hR (by dsimp only; omega) _))
  have HE1 := Lib.hid (show Ext w (w0.setCell ⟨w.heap.size + 1 + 1, 0, none⟩ (.slice (some ⟨bh, 0, none⟩) nh nh)) from (Ext.set HG0.out (by dsimp only; omega) _))
  have HFh := Lib.hid (show Blk (w0.setCell ⟨w.heap.size + 1 + 1, 0, none⟩ (.slice (some ⟨bh, 0, none⟩) nh nh)) bh 125 (lh.flatMap CLock.cs) from (Blk.far HFh.out (by dsimp only; omega) _))
  clear hX hR hO hF E 
  go_wp2_with fail
  clear x0 r0 o0 s0 u0 x1 r1 o1 s1 u1
  generalize (w0.setCell ⟨w.heap.size + 1 + 1, 0, none⟩ (.slice (some ⟨bh, 0, none⟩) nh nh)) = y1 at HO1 HX1 HR1 HE1 HFh ⊢
  have HQq := Lib.hid (hrq.ext HE1.out)
  refine (toWaitS_any Aq nq pq lq _ HLq.out hnq HQq.out).mono ?_
  rintro e w1 ⟨rfl, hF, E⟩
  have HFq := Lib.hid hF
  have HG1 := Lib.hid (HE1.out.trans E)
  have hX := HX1.out.ext E
  have hR := HR1.out.ext E
  have hO := HO1.out.ext E
  have HFh := Lib.hid (HFh.out.ext E)
  have hbq : w.heap.size ≤ y1.heap.size := HE1.out.le
  have hcq : w.heap.size + 1 + 1 < y1.heap.size := HO1.out.lt
  generalize y1.heap.size = bq at HFq hbq hcq ⊢
  obtain ⟨x0, x1⟩ := hX.cells2
  obtain ⟨r0, r1⟩ := hR.cells2
  obtain ⟨o0, o1⟩ := hO.cells2
  have s0 := hO.frozen 0
  have u0 := hR.frozen 0
  have s1 := hO.frozen 1
  have u1 := hR.frozen 1
  clear hF 
  go_wp2_with fail
  refine bodyPost_ret (v := .agg #[.slice (some ⟨bh, 0, none⟩) nh nh, .slice (some ⟨bq, 0, none⟩) nq nq]) (by simp [results, Try.results40, go_sem, r0, r1]) rfl ⟨bh, bq, rfl, hbh, ?_, hbq, ?_, ?_⟩
  · exact (Blk.far (Blk.far (Blk.far HFh.out (by dsimp only; omega) _) (by dsimp only; omega) _) (by dsimp only; omega) _)
  · exact (Blk.far (Blk.far (Blk.far HFq.out (by dsimp only; omega) _) (by dsimp only; omega) _) (by dsimp only; omega) _)
  · exact (Ext.set (Ext.set (Ext.set HG1.out (by dsimp only; omega) _) (by dsimp only; omega) _) (by dsimp only; omega) _)
set_option maxHeartbeats 2000000 in
theorem eqLocks_same (Ah Ah' : Option Addr) (nh ph ph' : Nat) (Aq Aq' : Option Addr) (nq pq pq' : Nat) (lh : List CLock) (lq : List CWait) (w : World) (hlh : lh.length = nh) (hlq : lq.length = nq) (hnh : nh ≤ 1099511627776) (hnq : nq ≤ 1099511627776) (hrh : Rd w Ah (lh.flatMap CLock.cs)) (hrq : Rd w Aq (lq.flatMap CWait.cs)) (hrh' : Rd w Ah' (lh.flatMap CLock.cs)) (hrq' : Rd w Aq' (lq.flatMap CWait.cs)) :
    Calls Try.prog 42 #[.agg #[.slice Ah nh ph, .slice Aq nq pq], .agg #[.slice Ah' nh ph', .slice Aq' nq pq']] w fun e w' => e = .returned (.bool true) ∧ Ext w w' := by
  have HLh := Lib.hid hlh
  have HLq := Lib.hid hlq
  have HRh := Lib.hid hrh
  have HSh := Lib.hid hrh'
  have HRq := Lib.hid hrq
  have HSq := Lib.hid hrq'
  have E0 : Ext w ((w.alloc (.cells #[.slice Ah nh ph, .slice Aq nq pq] 57)).alloc (.cells #[.slice Ah' nh ph', .slice Aq' nq pq'] 57)) := (by repeat (first | exact Ext.refl _ | assumption | refine Ext.alloc ?_ _ | refine Ext.drewN ?_ _ | refine Ext.drew ?_ | refine Ext.set ?_ (by dsimp only; omega) _ | refine Ext.trans ?_ (by assumption)))
  have hB2 := Blk.new (w.alloc (.cells #[.slice Ah nh ph, .slice Aq nq pq] 57)) 57 [.slice Ah' nh ph', .slice Aq' nq pq']
  rw [World.size_alloc] at hB2
  have HB1 := Lib.hid ((Blk.new w 57 [.slice Ah nh ph, .slice Aq nq pq]).alloc (.cells #[.slice Ah' nh ph', .slice Aq' nq pq'] 57))
  have HB2 := Lib.hid hB2
  have HE0 := Lib.hid E0
  clear hlh hrh hrh' hlq hrq hrq' hB2 E0
  go_enter Try.func42, Try.ntmps42
  go_wp2_with fail
  refine (eqLockS_same Ah Ah' nh ph ph' lh _ HLh.out hnh (HRh.out.ext HE0.out) (HSh.out.ext HE0.out)).mono ?_
  rintro e w0 ⟨rfl, E⟩
  have HE1 := Lib.hid (HE0.out.trans E)
  have HT0 := Lib.hid (E)
  clear E
  obtain ⟨x0, x1⟩ := (HB1.out.ext HT0.out).cells2
  obtain ⟨o0, o1⟩ := (HB2.out.ext HT0.out).cells2
  go_wp2_with fail
  clear x0 o0 x1 o1
  refine (eqWaitS_same Aq Aq' nq pq pq' lq _ HLq.out hnq (HRq.out.ext HE1.out) (HSq.out.ext HE1.out)).mono ?_
  rintro e w1 ⟨rfl, E⟩
  have HE2 := Lib.hid (HE1.out.trans E)
  have HT1 := Lib.hid (HT0.out.trans E)
  clear E
  go_wp2_with fail
  go_ret
  exact ⟨rfl, HE2.out⟩
end Go.Proofs.Ytnbfjkebakaigaa
