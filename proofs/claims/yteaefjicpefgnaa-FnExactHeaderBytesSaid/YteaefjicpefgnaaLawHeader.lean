/- The walk of FnExactHeaderBytes. -/
import Derived.Test.YteaefjicpefgnaaHeader
import Derived.Test.YteaefjicpefgnaaMarkB
namespace Go.Proofs.Yteaefjicpefgnaa
open Go.RowKit Go.Deep
set_option linter.unusedVariables false
set_option maxRecDepth 100000
theorem hdrL_len (x : Int) : (hdrL x).length ≤ 1000000 := by
  unfold hdrL; split
  · rw [headB_len]; omega
  · simp
set_option maxHeartbeats 1000000 in
theorem walk_FnExactHeaderBytes (w : World) (x : Int) (wx : (Lit.int .i64 x).wf = true) :
    Calls Try.prog 3 #[.int .i64 x] w fun e w' => e = .returned (.bool true) ∧ Ext w w' := by
  clear wx
  have hI := impl_HeaderBytes x
  have hS := spec_HeaderBytes x
  have hl := hdrL_len x
  generalize hdrL x = L at hI hS hl
  generalize hdrC x = C at hI hS
  have HI := Lib.hid hI
  have HS := Lib.hid hS
  clear hI hS
  have hn : L.length ≤ 1099511627776 := by omega
  have hcc : (C != C) = false := by simp
  go_enter Try.func3, Try.ntmps3
  go_wp2_with fail
  refine (HS.out w).mono ?_
  rintro e w1 ⟨v1, rfl, S1, E1⟩
  go_wp2_with fail
  refine (HI.out w1).mono ?_
  rintro e w2 ⟨v2, rfl, O2, E2⟩
  have HS1 := Lib.hid S1
  have HO2 := Lib.hid O2
  clear S1 O2
  go_wp2_with fail
  refine (eqByteS_sl (Sl.own HO2.out) (HS1.out.ext E2) hn).mono ?_
  rintro e w3 ⟨rfl, E3, _⟩
  go_wp2_with fail
  refine (markByteS_any w1.heap.size L.length v2 1 _ w3 hn (by omega) (by omega) (own_ext HO2.out E3)).mono ?_
  rintro e w4 ⟨rfl, O4, G4⟩
  have X4 : Ext w1 w4 := (E2.trans E3).grown G4 (own_blk HO2.out)
  have HO4 := Lib.hid O4
  clear O4 G4
  obtain ⟨A2, cap2, rfl⟩ := own_slice HO2.out
  go_wp2_with fail
  refine (heldByteS_any A2 L.length cap2 1 w4 hn (by omega) (by omega) (own_rd' HO4.out).2).mono ?_
  rintro e w5 ⟨rfl, rfl⟩
  go_wp2_with fail
  refine (HI.out w4).mono ?_
  rintro e w6 ⟨v6, rfl, O6, E6⟩
  have HO6 := Lib.hid O6
  clear O6
  go_wp2_with fail
  refine (eqByteS_sl (Sl.own HO6.out) (HS1.out.ext (X4.trans E6)) hn).mono ?_
  rintro e w7 ⟨rfl, E7, _⟩
  go_wp2_with fail
  refine (heldByteS_any A2 L.length cap2 1 w7 hn (by omega) (by omega) (own_rd' (own_ext HO4.out (E6.trans E7))).2).mono ?_
  rintro e w8 ⟨rfl, rfl⟩
  go_wp2_with fail
  go_ret
  exact ⟨rfl, E1.trans (X4.trans (E6.trans E7))⟩
end Go.Proofs.Yteaefjicpefgnaa
