/- The walk of FnExactNewEngine (printed by gen_lawnew.py). -/
import Derived.Test.YtnbfjkebakaigaaEngine
namespace Go.Proofs.Ytnbfjkebakaigaa
open Go.RowKit Go.Deep
set_option linter.unusedVariables false
set_option maxRecDepth 100000
theorem grownToN {w w1 w2 : World} {row : Option Nat} (h : Ext w w1) (hg : w1.grownBy w2 row) (hr : ∀ k, row = some k → w.heap.size ≤ k) : Ext w w2 := h.grown hg hr
set_option maxHeartbeats 8000000 in
theorem walk_FnExactNewEngine (w : World) :
    Calls Try.prog 7 #[] w fun e w' => e = .returned (.bool true) ∧ Ext w w' := by
  have hS := fun W => spec_NewEngine W
  have hI := fun W => impl_NewEngine W
  have hL := stL_len
  generalize stL = L at hS hI hL
  have HS := Lib.hid hS
  have HI := Lib.hid hI
  have hnL : L.length ≤ 1099511627776 := by omega
  have hL1 : L.length ≤ 100 := by omega
  clear hS hI hL
  go_enter Try.func7, Try.ntmps7
  go_wp2_with fail
  refine (HS.out w).mono ?_
  rintro e w1 ⟨v1, Ac1, Ak1, Al1, Af1, At1, Ah1, Aw1, rfl, O1, E1⟩
  obtain ⟨A1, cap1, rfl⟩ := own_slice O1
  have HX1 := Lib.hid (Blk.new w1 59 [.slice A1 L.length cap1, .slice Ac1 0 0, .bool false, .slice Ak1 0 0, .int .i64 1, .slice Al1 0 0, .int .i64 0, .slice Af1 0 0, .int .i64 0, .bool true, .slice At1 0 0, .slice Ah1 0 0, .slice Aw1 0 0, .int .i64 1])
  have HR1 := Lib.hid ((StS.own O1).ext ((Ext.refl w1).alloc (.cells #[.slice A1 L.length cap1, .slice Ac1 0 0, .bool false, .slice Ak1 0 0, .int .i64 1, .slice Al1 0 0, .int .i64 0, .slice Af1 0 0, .int .i64 0, .bool true, .slice At1 0 0, .slice Ah1 0 0, .slice Aw1 0 0, .int .i64 1] 59)))
  have HE1 := Lib.hid (E1.alloc (.cells #[.slice A1 L.length cap1, .slice Ac1 0 0, .bool false, .slice Ak1 0 0, .int .i64 1, .slice Al1 0 0, .int .i64 0, .slice Af1 0 0, .int .i64 0, .bool true, .slice At1 0 0, .slice Ah1 0 0, .slice Aw1 0 0, .int .i64 1] 59))
  clear O1 E1
  go_wp2_with fail
  generalize w1.alloc (.cells #[.slice A1 L.length cap1, .slice Ac1 0 0, .bool false, .slice Ak1 0 0, .int .i64 1, .slice Al1 0 0, .int .i64 0, .slice Af1 0 0, .int .i64 0, .bool true, .slice At1 0 0, .slice Ah1 0 0, .slice Aw1 0 0, .int .i64 1] 59) = z1 at HX1 HR1 HE1 ⊢
  generalize w1.heap.size = x1 at HX1 ⊢
  refine (HI.out z1).mono ?_
  rintro e w2 ⟨v2, Ac2, Ak2, Al2, Af2, At2, Ah2, Aw2, rfl, O2, E2⟩
  obtain ⟨A2, cap2, rfl⟩ := own_slice O2
  have HX2 := Lib.hid (Blk.new w2 59 [.slice A2 L.length cap2, .slice Ac2 0 0, .bool false, .slice Ak2 0 0, .int .i64 1, .slice Al2 0 0, .int .i64 0, .slice Af2 0 0, .int .i64 0, .bool true, .slice At2 0 0, .slice Ah2 0 0, .slice Aw2 0 0, .int .i64 1])
  have HO2 := Lib.hid (own_ext O2 ((Ext.refl w2).alloc (.cells #[.slice A2 L.length cap2, .slice Ac2 0 0, .bool false, .slice Ak2 0 0, .int .i64 1, .slice Al2 0 0, .int .i64 0, .slice Af2 0 0, .int .i64 0, .bool true, .slice At2 0 0, .slice Ah2 0 0, .slice Aw2 0 0, .int .i64 1] 59)))
  have HE2 := Lib.hid (E2.alloc (.cells #[.slice A2 L.length cap2, .slice Ac2 0 0, .bool false, .slice Ak2 0 0, .int .i64 1, .slice Al2 0 0, .int .i64 0, .slice Af2 0 0, .int .i64 0, .bool true, .slice At2 0 0, .slice Ah2 0 0, .slice Aw2 0 0, .int .i64 1] 59))
  clear O2 E2
  obtain ⟨p0, p1, p2, p3, p4, p5, p6, p7, p8, p9, p10, p11, p12, p13⟩ := HX2.out.cells14
  obtain ⟨q0, q1, q2, q3, q4, q5, q6, q7, q8, q9, q10, q11, q12, q13⟩ := (HX1.out.ext HE2.out).cells14
  go_wp2_with fail
  clear p0 p1 p2 p3 p4 p5 p6 p7 p8 p9 p10 p11 p12 p13 q0 q1 q2 q3 q4 q5 q6 q7 q8 q9 q10 q11 q12 q13
  generalize w2.alloc (.cells #[.slice A2 L.length cap2, .slice Ac2 0 0, .bool false, .slice Ak2 0 0, .int .i64 1, .slice Al2 0 0, .int .i64 0, .slice Af2 0 0, .int .i64 0, .bool true, .slice At2 0 0, .slice Ah2 0 0, .slice Aw2 0 0, .int .i64 1] 59) = z2 at HX2 HO2 HE2 ⊢
  generalize w2.heap.size = x2 at HX2 ⊢
  refine (eqEngine_bare _ _ Ac2 Ak2 Al2 Af2 At2 Ah2 Aw2 Ac1 Ak1 Al1 Af1 At1 Ah1 Aw1 L z2 hnL (StS.own HO2.out) (HR1.out.ext HE2.out)).mono ?_
  rintro e w3 ⟨rfl, E3⟩
  have HE3 := Lib.hid (HE2.out.trans E3)
  have HO3 := Lib.hid (own_ext HO2.out E3)
  have HX3 := Lib.hid (HX2.out.ext E3)
  clear E3 HE2 HO2 HX2
  obtain ⟨p0, p1, p2, p3, p4, p5, p6, p7, p8, p9, p10, p11, p12, p13⟩ := HX3.out.cells14
  go_wp2_with fail
  refine (markEngine_bare z1.heap.size _ Ac2 Ak2 Al2 Af2 At2 Ah2 Aw2 L w3 hL1 HO3.out).mono ?_
  rintro e w4 ⟨rfl, O4, G4⟩
  have hneX := own_apart HO3.out HX3.out (by decide)
  have HX4 := Lib.hid (show Blk w4 x2 59 [.slice A2 L.length cap2, .slice Ac2 0 0, .bool false, .slice Ak2 0 0, .int .i64 1, .slice Al2 0 0, .int .i64 0, .slice Af2 0 0, .int .i64 0, .bool true, .slice At2 0 0, .slice Ah2 0 0, .slice Aw2 0 0, .int .i64 1] from (G4.block x2 HX3.out.lt hneX).trans HX3.out)
  have HE4 := Lib.hid (grownToN HE3.out G4 (own_blk HO3.out))
  have HO4 := Lib.hid O4
  clear p0 p1 p2 p3 p4 p5 p6 p7 p8 p9 p10 p11 p12 p13 O4 G4 hneX HX3 HO3 HE3
  obtain ⟨p0, p1, p2, p3, p4, p5, p6, p7, p8, p9, p10, p11, p12, p13⟩ := HX4.out.cells14
  go_wp2_with fail
  refine (heldEngine_bare A2 Ac2 Ak2 Al2 Af2 At2 Ah2 Aw2 L.length cap2 w4 hL1 (own_rd' HO4.out).2).mono ?_
  rintro e w5 ⟨rfl, E5⟩
  have HE5 := Lib.hid (HE4.out.trans E5)
  have HO5 := Lib.hid (own_ext HO4.out E5)
  have HX5 := Lib.hid (HX4.out.ext E5)
  have hd : ¬ (1 : Int) + (L.length : Int) < 0 := by omega
  clear p0 p1 p2 p3 p4 p5 p6 p7 p8 p9 p10 p11 p12 p13 E5 HX4 HO4 HE4
  go_wp2_with fail
  refine (HI.out w5).mono ?_
  rintro e w6 ⟨v6, Ac6, Ak6, Al6, Af6, At6, Ah6, Aw6, rfl, O6, E6⟩
  obtain ⟨A6, cap6, rfl⟩ := own_slice O6
  have hEa := E6.alloc (.cells #[.slice A6 L.length cap6, .slice Ac6 0 0, .bool false, .slice Ak6 0 0, .int .i64 1, .slice Al6 0 0, .int .i64 0, .slice Af6 0 0, .int .i64 0, .bool true, .slice At6 0 0, .slice Ah6 0 0, .slice Aw6 0 0, .int .i64 1] 59)
  have HX6 := Lib.hid (Blk.new w6 59 [.slice A6 L.length cap6, .slice Ac6 0 0, .bool false, .slice Ak6 0 0, .int .i64 1, .slice Al6 0 0, .int .i64 0, .slice Af6 0 0, .int .i64 0, .bool true, .slice At6 0 0, .slice Ah6 0 0, .slice Aw6 0 0, .int .i64 1])
  have HO6 := Lib.hid (own_ext O6 ((Ext.refl w6).alloc (.cells #[.slice A6 L.length cap6, .slice Ac6 0 0, .bool false, .slice Ak6 0 0, .int .i64 1, .slice Al6 0 0, .int .i64 0, .slice Af6 0 0, .int .i64 0, .bool true, .slice At6 0 0, .slice Ah6 0 0, .slice Aw6 0 0, .int .i64 1] 59)))
  have HE6 := Lib.hid (HE5.out.trans hEa)
  have HXb := Lib.hid (HX5.out.ext hEa)
  have HOb := Lib.hid (own_ext HO5.out hEa)
  clear O6 E6 hEa HE5 HX5 HO5
  obtain ⟨p0, p1, p2, p3, p4, p5, p6, p7, p8, p9, p10, p11, p12, p13⟩ := HX6.out.cells14
  obtain ⟨q0, q1, q2, q3, q4, q5, q6, q7, q8, q9, q10, q11, q12, q13⟩ := (HX1.out.ext HE6.out).cells14
  go_wp2_with fail
  clear p0 p1 p2 p3 p4 p5 p6 p7 p8 p9 p10 p11 p12 p13 q0 q1 q2 q3 q4 q5 q6 q7 q8 q9 q10 q11 q12 q13
  generalize w6.alloc (.cells #[.slice A6 L.length cap6, .slice Ac6 0 0, .bool false, .slice Ak6 0 0, .int .i64 1, .slice Al6 0 0, .int .i64 0, .slice Af6 0 0, .int .i64 0, .bool true, .slice At6 0 0, .slice Ah6 0 0, .slice Aw6 0 0, .int .i64 1] 59) = z6 at HX6 HO6 HE6 HXb HOb ⊢
  generalize w6.heap.size = x6 at HX6 ⊢
  refine (eqEngine_bare _ _ Ac6 Ak6 Al6 Af6 At6 Ah6 Aw6 Ac1 Ak1 Al1 Af1 At1 Ah1 Aw1 L z6 hnL (StS.own HO6.out) (HR1.out.ext HE6.out)).mono ?_
  rintro e w7 ⟨rfl, E7⟩
  obtain ⟨p0, p1, p2, p3, p4, p5, p6, p7, p8, p9, p10, p11, p12, p13⟩ := (HXb.out.ext E7).cells14
  have HO7 := Lib.hid (own_ext HOb.out E7)
  go_wp2_with fail
  refine (heldEngine_bare A2 Ac2 Ak2 Al2 Af2 At2 Ah2 Aw2 L.length cap2 w7 hL1 (own_rd' HO7.out).2).mono ?_
  rintro e w8 ⟨rfl, E8⟩
  go_wp2_with fail
  go_ret
  exact ⟨rfl, HE1.out.trans (HE6.out.trans (E7.trans E8))⟩
end Go.Proofs.Ytnbfjkebakaigaa
