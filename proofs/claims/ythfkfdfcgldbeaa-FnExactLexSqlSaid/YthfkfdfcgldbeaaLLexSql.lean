/- The walk of FnExactLexSql. -/
import Derived.Test.YthfkfdfcgldbeaaLexI
import Derived.Test.YthfkfdfcgldbeaaMarkS
namespace Go.Proofs.Ythfkfdfcgldbeaa
open Go.RowKit Go.Deep
set_option linter.unusedVariables false
set_option maxRecDepth 100000
set_option maxHeartbeats 2000000 in
theorem walk_FnExactLexSql (w : World) (s : ByteArray) (ws : s.size ≤ maxLen) :
    Calls Try.prog 9 #[.string s] w fun e w' => e = .returned (.bool true) ∧ Ext w w' := by
  by_cases hbig : (1048576 : Int) < (s.size : Int)
  · clear ws
    go_enter Try.func9, Try.ntmps9
    go_wp2_with fail
    go_ret
    exact ⟨rfl, Ext.refl _⟩
  have hS := fun W => spec_LexSql s W ws
  have hI := fun W => impl_LexSql s W ws
  have hL := lexV_len s
  unfold LxPost at hS hI
  generalize lexV s = V at hS hI hL
  obtain ⟨L, C⟩ := V
  dsimp only at hS hI hL
  have HS := Lib.hid hS
  have HI := Lib.hid hI
  have hnL : L.length ≤ 1099511627776 := by omega
  have hcc : (C != C) = false := by simp
  clear hS hI ws
  go_enter Try.func9, Try.ntmps9
  go_wp2_with fail
  refine (HS.out w).mono ?_
  rintro e w1 ⟨v1, rfl, O1, E1⟩
  have HS1 := Lib.hid (StS.own O1)
  have HE1 := Lib.hid E1
  clear O1 E1
  go_wp2_with fail
  refine (HI.out w1).mono ?_
  rintro e w2 ⟨v2, rfl, O2, E2⟩
  have HO2 := Lib.hid O2
  have HE2 := Lib.hid E2
  clear O2 E2
  go_wp2_with fail
  refine (eqStringS_st (StS.own HO2.out) (HS1.out.ext HE2.out) hnL).mono ?_
  rintro e w6 ⟨rfl, E6⟩
  go_wp2_with fail
  refine (markStringS_own w1.heap.size v2 1 L _ (by omega) (by omega) (by omega) (own_ext HO2.out E6)).mono ?_
  rintro e w7 ⟨rfl, O7, G7⟩
  have X7 : Ext w1 w7 := (HE2.out.trans E6).grown G7 (fun k hk => own_blk HO2.out k hk)
  have HO7 := Lib.hid O7
  clear O7 G7
  obtain ⟨A2, cap2, rfl⟩ := own_slice HO2.out
  go_wp2_with fail
  refine (heldStringS_any A2 L.length cap2 1 w7 (by omega) (by omega) (by omega) (own_rd' HO7.out).2).mono ?_
  rintro e w8 ⟨rfl, E8⟩
  have X8 := X7.trans E8
  have HO8 := Lib.hid (own_ext HO7.out E8)
  clear HO7
  go_wp2_with fail
  refine (HI.out w8).mono ?_
  rintro e w9 ⟨v9, rfl, O9, E9⟩
  have HO9 := Lib.hid O9
  clear O9
  go_wp2_with fail
  refine (eqStringS_st (StS.own HO9.out) (HS1.out.ext (X8.trans E9)) hnL).mono ?_
  rintro e wx ⟨rfl, Ex⟩
  go_wp2_with fail
  refine (heldStringS_any A2 L.length cap2 1 wx (by omega) (by omega) (by omega) (own_rd' (own_ext HO8.out (E9.trans Ex))).2).mono ?_
  rintro e wy ⟨rfl, Ey⟩
  go_wp2_with fail
  go_ret
  exact ⟨rfl, HE1.out.trans (X8.trans (E9.trans (Ex.trans Ey)))⟩
end Go.Proofs.Ythfkfdfcgldbeaa
