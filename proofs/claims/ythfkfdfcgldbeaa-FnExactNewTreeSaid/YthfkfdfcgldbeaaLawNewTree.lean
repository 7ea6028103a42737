/- The walk of FnExactNewTree. -/
import Derived.Test.YthfkfdfcgldbeaaNode
namespace Go.Proofs.Ythfkfdfcgldbeaa
open Go.RowKit Go.Deep
set_option linter.unusedVariables false
set_option maxRecDepth 100000
/-- a new tree -/
def NtPost (w : World) (T : TypeId) (e : Ending) (w' : World) : Prop :=
  ∃ b, e = .returned (.agg #[.int .i64 0, .slice (some ⟨b, 0, none⟩) 1 1]) ∧ w.heap.size ≤ b ∧ Blk w' b T [.bool true, .slice none 0 0, .slice none 0 0] ∧ Ext w w'
theorem impl_NewTree (w : World) : Calls Try.prog 48 #[] w (NtPost w 122) := by
  go_enter Try.func48, Try.ntmps48
  go_wp2_with fail
  refine bodyPost_ret (v := .agg #[.int .i64 0, .slice (some ⟨w.heap.size + 1, 0, none⟩) 1 1]) (by simp [results, Try.results48, go_sem]; try rfl) rfl ?_
  refine ⟨w.heap.size + 1, rfl, by omega, ?_, (by repeat (first | exact Ext.refl _ | assumption | refine Ext.alloc ?_ _ | refine Ext.drewN ?_ _ | refine Ext.drew ?_ | refine Ext.set ?_ (by dsimp only; omega) _ | refine Ext.trans ?_ (by assumption)))⟩
  have h := Blk.new (w.alloc (.cells #[.int .i64 0, .slice (some ⟨w.heap.size + 1, 0, none⟩) 1 1] 74)) 122 [.bool true, .slice none 0 0, .slice none 0 0]
  rw [show (w.alloc (.cells #[.int .i64 0, .slice (some ⟨w.heap.size + 1, 0, none⟩) 1 1] 74)).heap.size = w.heap.size + 1 by simp] at h
  exact h
theorem spec_NewTree (w : World) : Calls Try.prog 47 #[] w (NtPost w 122) := by
  go_enter Try.func47, Try.ntmps47
  go_wp2_with fail
  refine bodyPost_ret (v := .agg #[.int .i64 0, .slice (some ⟨w.heap.size + 1, 0, none⟩) 1 1]) (by simp [results, Try.results47, go_sem]; try rfl) rfl ?_
  refine ⟨w.heap.size + 1, rfl, by omega, ?_, (by repeat (first | exact Ext.refl _ | assumption | refine Ext.alloc ?_ _ | refine Ext.drewN ?_ _ | refine Ext.drew ?_ | refine Ext.set ?_ (by dsimp only; omega) _ | refine Ext.trans ?_ (by assumption)))⟩
  have h := Blk.new (w.alloc (.cells #[.int .i64 0, .slice (some ⟨w.heap.size + 1, 0, none⟩) 1 1] 74)) 122 [.bool true, .slice none 0 0, .slice none 0 0]
  rw [show (w.alloc (.cells #[.int .i64 0, .slice (some ⟨w.heap.size + 1, 0, none⟩) 1 1] 74)).heap.size = w.heap.size + 1 by simp] at h
  exact h
set_option maxHeartbeats 2000000 in
theorem walk_FnExactNewTree (w : World) : Calls Try.prog 10 #[] w fun e w' => e = .returned (.bool true) ∧ Ext w w' := by
  have HI := Lib.hid impl_NewTree
  have HS := Lib.hid (spec_NewTree w)
  go_enter Try.func10, Try.ntmps10
  go_wp2_with fail
  refine HS.out.mono ?_
  rintro e w1 ⟨b1, rfl, g1, B1, E1⟩
  have HX1 := Lib.hid (Blk.new w1 74 [.int .i64 0, .slice (some ⟨b1, 0, none⟩) 1 1])
  have HB1 := Lib.hid (B1.alloc (.cells #[.int .i64 0, .slice (some ⟨b1, 0, none⟩) 1 1] 74))
  have HE1 := Lib.hid (E1.alloc (.cells #[.int .i64 0, .slice (some ⟨b1, 0, none⟩) 1 1] 74))
  clear B1 E1 HS
  go_wp2_with fail
  generalize w1.alloc (.cells #[.int .i64 0, .slice (some ⟨b1, 0, none⟩) 1 1] 74) = z1 at HX1 HB1 HE1 ⊢
  generalize w1.heap.size = x1 at HX1 ⊢
  refine (HI.out z1).mono ?_
  rintro e w2 ⟨b2, rfl, g2, B2, E2⟩
  have HX2 := Lib.hid (Blk.new w2 74 [.int .i64 0, .slice (some ⟨b2, 0, none⟩) 1 1])
  have HB2 := Lib.hid (B2.alloc (.cells #[.int .i64 0, .slice (some ⟨b2, 0, none⟩) 1 1] 74))
  have HE2 := Lib.hid (E2.alloc (.cells #[.int .i64 0, .slice (some ⟨b2, 0, none⟩) 1 1] 74))
  have hx2 : z1.heap.size ≤ w2.heap.size := E2.le
  clear B2 E2
  obtain ⟨p0, p1⟩ := HX2.out.cells2
  obtain ⟨q0, q1⟩ := (HX1.out.ext HE2.out).cells2
  go_wp2_with fail
  clear p0 p1 q0 q1
  generalize w2.alloc (.cells #[.int .i64 0, .slice (some ⟨b2, 0, none⟩) 1 1] 74) = z2 at HX2 HB2 HE2 ⊢
  generalize w2.heap.size = x2 at HX2 hx2 ⊢
  refine (eqTree_bare b2 b1 true z2 HB2.out (HB1.out.ext HE2.out)).mono ?_
  rintro e w3 ⟨rfl, E3⟩
  have HE3 := Lib.hid (HE2.out.trans E3)
  have HB3 := Lib.hid (HB2.out.ext E3)
  have HX3 := Lib.hid (HX2.out.ext E3)
  have hne : x2 ≠ b2 := by
    intro e
    have h1 := HX3.out
    have h2 := HB3.out
    rw [e] at h1
    unfold Blk at h1 h2
    rw [h1] at h2
    injection h2 with h2
    injection h2 with _ h3
    exact absurd h3 (by decide)
  clear E3 HE2 HB2 HX2
  obtain ⟨p0, p1⟩ := HX3.out.cells2
  go_wp2_with fail
  refine (markTree_bare b2 w3 HB3.out).mono ?_
  rintro e w4 ⟨rfl, B4, G4⟩
  have HX4 := Lib.hid (HX3.out.grown G4 hne)
  have X4 : Ext z1 w4 := HE3.out.grownBy G4 g2
  have HE4 := Lib.hid X4
  have HB4 := Lib.hid B4
  clear p0 p1 B4 G4 X4 HX3 HB3 HE3
  obtain ⟨p0, p1⟩ := HX4.out.cells2
  go_wp2_with fail
  refine (heldTree_bare b2 w4 HB4.out).mono ?_
  rintro e w5 ⟨rfl, E5⟩
  have HE5 := Lib.hid (HE4.out.trans E5)
  have HX5 := Lib.hid (HX4.out.ext E5)
  have HB5 := Lib.hid (HB4.out.ext E5)
  clear p0 p1 E5 HX4 HB4 HE4
  go_wp2_with fail
  refine (HI.out w5).mono ?_
  rintro e w6 ⟨b6, rfl, g6, B6, E6⟩
  have hEa := E6.alloc (.cells #[.int .i64 0, .slice (some ⟨b6, 0, none⟩) 1 1] 74)
  have HX6 := Lib.hid (Blk.new w6 74 [.int .i64 0, .slice (some ⟨b6, 0, none⟩) 1 1])
  have HB6 := Lib.hid (B6.alloc (.cells #[.int .i64 0, .slice (some ⟨b6, 0, none⟩) 1 1] 74))
  have HE6 := Lib.hid (HE5.out.trans hEa)
  have HX2 := Lib.hid (HX5.out.ext hEa)
  have HB2 := Lib.hid (HB5.out.ext hEa)
  clear B6 E6 hEa HE5 HX5 HB5
  obtain ⟨p0, p1⟩ := HX6.out.cells2
  obtain ⟨q0, q1⟩ := (HX1.out.ext HE6.out).cells2
  go_wp2_with fail
  clear p0 p1 q0 q1
  generalize w6.alloc (.cells #[.int .i64 0, .slice (some ⟨b6, 0, none⟩) 1 1] 74) = z6 at HX6 HB6 HE6 HX2 HB2 ⊢
  generalize w6.heap.size = x6 at HX6 ⊢
  refine (eqTree_bare b6 b1 true z6 HB6.out (HB1.out.ext HE6.out)).mono ?_
  rintro e w7 ⟨rfl, E7⟩
  obtain ⟨p0, p1⟩ := (HX2.out.ext E7).cells2
  have HB7 := Lib.hid (HB2.out.ext E7)
  go_wp2_with fail
  refine (heldTree_bare b2 w7 HB7.out).mono ?_
  rintro e w8 ⟨rfl, E8⟩
  go_wp2_with fail
  go_ret
  exact ⟨rfl, HE1.out.trans (HE6.out.trans (E7.trans E8))⟩
end Go.Proofs.Ythfkfdfcgldbeaa
