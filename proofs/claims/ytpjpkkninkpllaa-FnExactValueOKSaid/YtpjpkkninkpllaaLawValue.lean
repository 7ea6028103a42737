/- The walks of the laws FnExactValueOK and FnExactCompareValues. -/
import Derived.Test.YtpjpkkninkpllaaValue
namespace Go.Proofs.Ytpjpkkninkpllaa
open Go.RowKit Go.Deep
set_option linter.unusedVariables false
set_option maxHeartbeats 1000000 in
theorem walk_FnExactValueOK (w : World) (k i : Int) (s : ByteArray) (wk : (Lit.int .i64 k).wf = true) (wi : (Lit.int .i64 i).wf = true) (ws : s.size ≤ maxLen) :
    Calls Try.prog 8 #[.agg #[.int .i64 k, .int .i64 i, .string s]] w fun e w' => e = .returned (.bool true) ∧ Ext w w' := by
  clear wk wi
  have hm := ws
  unfold maxLen at hm
  have hI := impl_ValueOK k i s
  have hS := spec_ValueOK k i s
  generalize valB k i s = b at hI hS
  have HI := Lib.hid hI
  have HS := Lib.hid hS
  clear hI hS
  have hZ := szValue_any k i 1048576 s
  have hB := Blk.new w 35 [.int .i64 k, .int .i64 i, .string s]
  by_cases hbig : (1048576 : Int) < (s.size : Int)
  · rw [if_pos hbig] at hZ
    have HZ := Lib.hid hZ
    clear hZ
    go_enter Try.func8, Try.ntmps8
    go_wp2_with fail
    refine (HZ.out _ ws (by omega) (by omega)).mono ?_
    rintro e w1 ⟨rfl, E1⟩
    go_wp2_with fail
    go_ret
    exact ⟨rfl, (by repeat (first | exact Ext.refl _ | assumption | refine Ext.alloc ?_ _ | refine Ext.drewN ?_ _ | refine Ext.drew ?_ | refine Ext.trans ?_ (by assumption)))⟩
  · rw [if_neg hbig] at hZ
    have h0 : 0 ≤ (1048576 : Int) - (s.size : Int) := by omega
    generalize (1048576 : Int) - (s.size : Int) = left at hZ h0
    have HZ := Lib.hid hZ
    clear hZ
    go_enter Try.func8, Try.ntmps8
    go_wp2_with fail
    refine (HZ.out _ ws (by omega) (by omega)).mono ?_
    rintro e w0 ⟨rfl, E0⟩
    have B0 := hB.ext E0
    obtain ⟨c0, c1, c2⟩ := B0.cells3
    go_wp2_with fail
    refine (toValue_any k i s _).mono ?_
    rintro e w1 ⟨rfl, E1⟩
    go_wp2_with fail
    refine (HS.out _ ws).mono ?_
    rintro e w2 ⟨rfl, E2⟩
    obtain ⟨d0, d1, d2⟩ := ((B0.ext E1).ext E2).cells3
    go_wp2_with fail
    refine (toValue_any k i s _).mono ?_
    rintro e w3 ⟨rfl, E3⟩
    go_wp2_with fail
    refine (HI.out _ ws).mono ?_
    rintro e w4 ⟨rfl, E4⟩
    go_wp2_with fail
    go_ret
    exact ⟨rfl, (by repeat (first | exact Ext.refl _ | assumption | refine Ext.alloc ?_ _ | refine Ext.drewN ?_ _ | refine Ext.drew ?_ | refine Ext.trans ?_ (by assumption)))⟩
end Go.Proofs.Ytpjpkkninkpllaa
