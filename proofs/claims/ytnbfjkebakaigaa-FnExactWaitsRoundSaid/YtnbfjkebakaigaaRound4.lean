/- The walks of WaitsRound (printed by gen_round4.py). -/
import Derived.Test.YtnbfjkebakaigaaRound3
namespace Go.Proofs.Ytnbfjkebakaigaa
open Go.RowKit Go.Deep
set_option linter.unusedVariables false
set_option maxRecDepth 100000
theorem locksB_q {lh : List CLock} {lq : List CWait} (h : locksB lh lq = true) : lh.length ≤ 60 ∧ lq.length ≤ 100 := by
  unfold locksB at h
  simp only [Bool.and_eq_true, decide_eq_true_eq] at h
  exact ⟨h.1.1.2, h.1.2⟩
def wrV (lh : List CLock) (lq : List CWait) (tx : Int) : Bool := locksB lh lq && inB tx 1 60 && roundB lq tx
def wrC (lh : List CLock) (lq : List CWait) (tx : Int) : Int := if locksB lh lq = false then 1 else if inB tx 1 60 = false then 4 else 0
set_option maxHeartbeats 1000000 in
theorem impl_WaitsRound (Ah : Option Addr) (nh ph : Nat) (Aq : Option Addr) (nq pq : Nat) (lh : List CLock) (lq : List CWait) (tx : Int) (w : World) (hlh : lh.length = nh) (hlq : lq.length = nq) (hph : nh ≤ ph) (hnh : nh ≤ 1099511627776) (hnq : nq ≤ 1099511627776)
    (hrh : Rd w Ah (lh.flatMap CLock.cs)) (hrq : Rd w Aq (lq.flatMap CWait.cs)) :
    Calls Try.prog 46 #[.agg #[.slice Ah nh ph, .slice Aq nq pq], .int .i64 tx] w fun e w' => e = .returned (.tuple #[.bool (wrV lh lq tx), .int .i64 (wrC lh lq tx)]) ∧ Ext w w' := by
  have E0 : Ext w (w.alloc (.cells #[.slice Ah nh ph, .slice Aq nq pq] 57)) := (by repeat (first | exact Ext.refl _ | assumption | refine Ext.alloc ?_ _ | refine Ext.drewN ?_ _ | refine Ext.drew ?_ | refine Ext.set ?_ (by dsimp only; omega) _ | refine Ext.trans ?_ (by assumption)))
  have hL := impl_LocksOK Ah nh ph Aq nq pq lh lq _ hlh hlq hph hnh hnq (hrh.ext E0) (hrq.ext E0)
  have hV : wrV lh lq tx = (locksB lh lq && inB tx 1 60 && roundB lq tx) := rfl
  have hC : wrC lh lq tx = if locksB lh lq = false then 1 else if inB tx 1 60 = false then 4 else 0 := rfl
  generalize wrV lh lq tx = rv at hV ⊢
  generalize wrC lh lq tx = rc at hC ⊢
  have HX := Lib.hid (Blk.new w 57 [.slice Ah nh ph, .slice Aq nq pq])
  have HR := Lib.hid (hrq.ext E0)
  have HLq := Lib.hid hlq
  have HE0 := Lib.hid E0
  have HQ := Lib.hid (fun h => (locksB_q (lh := lh) (lq := lq) h).2)
  generalize locksB lh lq = t1 at hL hV hC HQ
  have HL := Lib.hid hL
  clear hrh hrq hlh hlq E0 hL
  rcases t1 with _ | _
  · have HV := Lib.hid (show rv = false by rw [hV]; rfl)
    have HC := Lib.hid (show rc = 1 by rw [hC]; rfl)
    clear hV hC
    go_enter Try.func46, Try.ntmps46
    go_wp2_with fail
    refine HL.out.mono ?_
    rintro e w1 ⟨rfl, E1⟩
    go_wp2_with fail
    go_ret2
    exact ⟨by rw [HV.out, HC.out]; rfl, HE0.out.trans E1⟩
  have hq100 := HQ.out rfl
  rw [HLq.out] at hq100
  have HM := Lib.hid (fun W => impl_isTx tx W)
  generalize inB tx 1 60 = t2 at hV hC HM
  rcases t2 with _ | _
  · have HV := Lib.hid (show rv = false by rw [hV]; rfl)
    have HC := Lib.hid (show rc = 4 by rw [hC]; rfl)
    clear hV hC
    go_enter Try.func46, Try.ntmps46
    go_wp2_with fail
    refine HL.out.mono ?_
    rintro e w1 ⟨rfl, E1⟩
    go_wp2_with fail
    refine (HM.out _).mono ?_
    rintro e w2 ⟨rfl, rfl⟩
    go_wp2_with fail
    go_ret2
    exact ⟨by rw [HV.out, HC.out]; rfl, HE0.out.trans E1⟩
  · have HV := Lib.hid (show rv = roundB lq tx by rw [hV]; rfl)
    have HC := Lib.hid (show rc = 0 by rw [hC]; rfl)
    clear hV hC
    go_enter Try.func46, Try.ntmps46
    go_wp2_with fail
    refine HL.out.mono ?_
    rintro e w1 ⟨rfl, E1⟩
    go_wp2_with fail
    refine (HM.out _).mono ?_
    rintro e w2 ⟨rfl, rfl⟩
    have HE2 := Lib.hid E1
    clear E1
    obtain ⟨x0, x1⟩ := (HX.out.ext HE2.out).cells2
    go_wp2_with fail
    refine (impl_leads Ah nh ph Aq nq pq lq tx _ HLq.out hq100 (HR.out.ext HE2.out)).mono ?_
    rintro e w3 ⟨rfl, E3⟩
    go_wp2_with fail
    go_ret2
    exact ⟨by rw [HV.out, HC.out]; rfl, HE0.out.trans (HE2.out.trans E3)⟩
set_option maxHeartbeats 1000000 in
theorem spec_WaitsRound (Ah : Option Addr) (nh ph : Nat) (Aq : Option Addr) (nq pq : Nat) (lh : List CLock) (lq : List CWait) (tx : Int) (w : World) (hlh : lh.length = nh) (hlq : lq.length = nq) (hph : nh ≤ ph) (hnh : nh ≤ 1099511627776) (hnq : nq ≤ 1099511627776)
    (hrh : Rd w Ah (lh.flatMap CLock.cs)) (hrq : Rd w Aq (lq.flatMap CWait.cs)) :
    Calls Try.prog 45 #[.agg #[.slice Ah nh ph, .slice Aq nq pq], .int .i64 tx] w fun e w' => e = .returned (.tuple #[.bool (wrV lh lq tx), .int .i64 (wrC lh lq tx)]) ∧ Ext w w' := by
  have E0 : Ext w (w.alloc (.cells #[.slice Ah nh ph, .slice Aq nq pq] 57)) := (by repeat (first | exact Ext.refl _ | assumption | refine Ext.alloc ?_ _ | refine Ext.drewN ?_ _ | refine Ext.drew ?_ | refine Ext.set ?_ (by dsimp only; omega) _ | refine Ext.trans ?_ (by assumption)))
  have hL := spec_LocksOK Ah nh ph Aq nq pq lh lq _ hlh hlq hnh hnq (hrh.ext E0) (hrq.ext E0)
  have hV : wrV lh lq tx = (locksB lh lq && inB tx 1 60 && roundB lq tx) := rfl
  have hC : wrC lh lq tx = if locksB lh lq = false then 1 else if inB tx 1 60 = false then 4 else 0 := rfl
  generalize wrV lh lq tx = rv at hV ⊢
  generalize wrC lh lq tx = rc at hC ⊢
  have HX := Lib.hid (Blk.new w 57 [.slice Ah nh ph, .slice Aq nq pq])
  have HR := Lib.hid (hrq.ext E0)
  have HLq := Lib.hid hlq
  have HE0 := Lib.hid E0
  have HQ := Lib.hid (fun h => (locksB_q (lh := lh) (lq := lq) h).2)
  generalize locksB lh lq = t1 at hL hV hC HQ
  have HL := Lib.hid hL
  clear hrh hrq hlh hlq E0 hL
  rcases t1 with _ | _
  · have HV := Lib.hid (show rv = false by rw [hV]; rfl)
    have HC := Lib.hid (show rc = 1 by rw [hC]; rfl)
    clear hV hC
    go_enter Try.func45, Try.ntmps45
    go_wp2_with fail
    refine HL.out.mono ?_
    rintro e w1 ⟨rfl, E1⟩
    go_wp2_with fail
    go_ret2
    exact ⟨by rw [HV.out, HC.out]; rfl, HE0.out.trans E1⟩
  have hq100 := HQ.out rfl
  rw [HLq.out] at hq100
  have HM := Lib.hid (fun W => spec_l01In tx 1 60 W)
  generalize inB tx 1 60 = t2 at hV hC HM
  rcases t2 with _ | _
  · have HV := Lib.hid (show rv = false by rw [hV]; rfl)
    have HC := Lib.hid (show rc = 4 by rw [hC]; rfl)
    clear hV hC
    go_enter Try.func45, Try.ntmps45
    go_wp2_with fail
    refine HL.out.mono ?_
    rintro e w1 ⟨rfl, E1⟩
    go_wp2_with fail
    refine (HM.out _).mono ?_
    rintro e w2 ⟨rfl, rfl⟩
    go_wp2_with fail
    go_ret2
    exact ⟨by rw [HV.out, HC.out]; rfl, HE0.out.trans E1⟩
  · have HV := Lib.hid (show rv = roundB lq tx by rw [hV]; rfl)
    have HC := Lib.hid (show rc = 0 by rw [hC]; rfl)
    clear hV hC
    go_enter Try.func45, Try.ntmps45
    go_wp2_with fail
    refine HL.out.mono ?_
    rintro e w1 ⟨rfl, E1⟩
    go_wp2_with fail
    refine (HM.out _).mono ?_
    rintro e w2 ⟨rfl, rfl⟩
    have HE2 := Lib.hid E1
    clear E1
    obtain ⟨x0, x1⟩ := (HX.out.ext HE2.out).cells2
    go_wp2_with fail
    refine (spec_l06Round Ah nh ph Aq nq pq lq tx _ HLq.out hq100 (HR.out.ext HE2.out)).mono ?_
    rintro e w3 ⟨rfl, E3⟩
    go_wp2_with fail
    go_ret2
    exact ⟨by rw [HV.out, HC.out]; rfl, HE0.out.trans (HE2.out.trans E3)⟩
end Go.Proofs.Ytnbfjkebakaigaa
