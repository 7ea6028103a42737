/- The walk of FnExactExprOK. -/
import Derived.Test.YthfkfdfcgldbeaaExprI
import Derived.Test.YthfkfdfcgldbeaaOpenExpr
import Derived.Test.YthfkfdfcgldbeaaRg
namespace Go.Proofs.Ythfkfdfcgldbeaa
open Go.RowKit Go.Deep
set_option linter.unusedVariables false
set_option maxRecDepth 100000
set_option maxHeartbeats 4000000 in
theorem walk_FnExactExprOK (w : World) (Ae : Option Addr) (ne pe : Nat) (le : List CExprNode) (q1 : le.length = ne) (q2 : ne ≤ pe) (q3 : pe ≤ maxLen) (q4 : ∀ x ∈ le, x.s.size ≤ maxLen) (q5 : Rd w Ae (le.flatMap CExprNode.cs)) :
    Calls Try.prog 6 #[.agg #[.slice Ae ne pe]] w fun e w' => e = .returned (.bool true) ∧ Ext w w' := by
  have HL := Lib.hid q1
  have HX := Lib.hid q4
  have HR := Lib.hid q5
  unfold maxLen at q3
  clear q1 q4 q5
  have hB := Blk.new w 49 [.slice Ae ne pe]
  have hE0 : Ext w (w.alloc (.cells #[.slice Ae ne pe] 49)) := (by repeat (first | exact Ext.refl _ | assumption | refine Ext.alloc ?_ _ | refine Ext.drewN ?_ _ | refine Ext.drew ?_ | refine Ext.set ?_ (by dsimp only; omega) _ | refine Ext.trans ?_ (by assumption)))
  have hI := fun W bn (hns : ne ≤ 1099511627776) (B : Blk W bn 155 (le.flatMap CExprNode.cs)) => impl_ExprOK (some ⟨bn, 0, none⟩) ne ne le W HL.out hns HX.out B.rd
  have hS := fun W bn (hns : ne ≤ 1099511627776) (B : Blk W bn 155 (le.flatMap CExprNode.cs)) => spec_ExprOK (some ⟨bn, 0, none⟩) ne ne le W HL.out hns HX.out B.rd
  generalize exB le = r0 at hI hS
  have HI := Lib.hid hI
  have HS := Lib.hid hS
  clear hI hS
  have hr0 : (r0 != r0) = false := by simp
  go_enter Try.func6, Try.ntmps6
  go_wp2_with fail
  refine (szExpr_any Ae ne pe le 1048576 _ HL.out (by omega) (by omega) (by omega) HX.out (HR.out.ext hE0)).mono ?_
  rintro e w0 ⟨v, rfl, hv1, hv2, hG, E0⟩
  have HG := Lib.hid hG
  clear hG
  by_cases hv : v < 0
  · go_wp2_with fail
    go_ret
    exact ⟨rfl, hE0.trans E0⟩
  have hns : ne ≤ 1099511627776 := by have h1 := (HG.out (by omega)).1; rw [HL.out] at h1; omega
  have HB0 := Lib.hid (hB.ext E0)
  have HR0 := Lib.hid ((HR.out.ext hE0).ext E0)
  have HE0 := Lib.hid (hE0.trans E0)
  clear hB hE0 E0
  have c0 := HB0.out.cell (i := 0) (by simp)
  simp only [List.getElem_cons_zero] at c0
  go_wp2_with fail
  refine (toExpr_any Ae ne pe le w0 HL.out hns HR0.out).mono ?_
  rintro e wa ⟨ba, rfl, -, Ba, Ea⟩
  clear c0
  go_wp2_with fail
  refine (HS.out wa _ hns Ba).mono ?_
  rintro e w1 ⟨rfl, E1⟩
  have HE1 := Lib.hid (HE0.out.trans (Ea.trans E1))
  have HB1 := Lib.hid (HB0.out.ext (Ea.trans E1))
  have HR1 := Lib.hid (HR0.out.ext (Ea.trans E1))
  clear Ea E1 HB0 HE0 HR0 Ba
  have c0 := HB1.out.cell (i := 0) (by simp)
  simp only [List.getElem_cons_zero] at c0
  go_wp2_with fail
  refine (toExpr_any Ae ne pe le w1 HL.out hns HR1.out).mono ?_
  rintro e wb ⟨bn, rfl, -, Bb, Eb⟩
  have HBB := Lib.hid (Bb.ext ((Ext.refl wb).alloc (.cells #[.slice (some ⟨bn, 0, none⟩) ne ne] 54)))
  clear c0 Bb
  have HX1 := Lib.hid (Blk.new wb 54 [.slice (some ⟨bn, 0, none⟩) ne ne])
  have HEb := Lib.hid (show Ext w1 (wb.alloc (.cells #[.slice (some ⟨bn, 0, none⟩) ne ne] 54)) from Eb.alloc _)
  clear Eb
  generalize hxx : wb.heap.size = bx at HX1 ⊢
  go_wp2_with fail
  have HIb := Lib.hid (HI.out _ _ hns HBB.out)
  generalize wb.alloc (.cells #[.slice (some ⟨bn, 0, none⟩) ne ne] 54) = wc at HX1 HBB HEb HIb ⊢
  clear hxx
  have x0 := HX1.out.cell (i := 0) (by simp)
  simp only [List.getElem_cons_zero] at x0
  refine HIb.out.mono ?_
  rintro e w2 ⟨rfl, E2⟩
  have HE2 := Lib.hid E2
  clear E2 HIb x0
  have x0 := (HX1.out.ext HE2.out).cell (i := 0) (by simp)
  have c0 := (HB1.out.ext (HEb.out.trans HE2.out)).cell (i := 0) (by simp)
  simp only [List.getElem_cons_zero] at x0 c0
  go_wp2_with fail
  refine rg_start (by kernel_rfl) (Ext.refl w2) (fun hE0 => ?_)
  (refine rg_take (v := ?_) 0 rfl (by kernel_rfl) (by kernel_rfl) (by kernel_rfl) (fun _ _ _ h => h) (by rfl) (by assumption) (fun W hW => ?_) ?_; rotate_left; (focus (have k0 := hW.cell x0; go_simp; try with_reducible rfl)); (try simp only [List.setIfInBounds_toArray, List.set_cons_succ, List.set_cons_zero]))
  (refine rg_take (v := ?_) 1 rfl (by kernel_rfl) (by kernel_rfl) (by kernel_rfl) (fun _ _ _ h => h) (by rfl) (by assumption) (fun W hW => ?_) ?_; rotate_left; (focus (have k0 := hW.cell c0; go_simp; try with_reducible rfl)); (try simp only [List.setIfInBounds_toArray, List.set_cons_succ, List.set_cons_zero]))
  (refine rg_one 2 (by kernel_rfl) rfl (by rfl) (fun K hK => ?_); go_simp)
  refine (toExpr_any Ae ne pe le _ HL.out hns ((HR1.out.ext (HEb.out.trans HE2.out)).ext hE0)).mono ?_
  rintro e w4 ⟨bd, rfl, -, Bd, E4⟩
  refine hK _ _ (hE0.trans E4) (fun hE4 => ?_)
  clear hK K
  try simp only [List.setIfInBounds_toArray, List.set_cons_succ, List.set_cons_zero]
  (refine rg_one 3 (by kernel_rfl) rfl (by rfl) (fun K hK => ?_); go_simp)
  refine (eqExpr_same _ _ ne ne ne le w4 HL.out hns (HBB.out.ext (HE2.out.trans hE4)).rd Bd.rd).mono ?_
  rintro e w5 ⟨rfl, E5⟩
  refine hK _ _ (hE4.trans E5) (fun hE5 => ?_)
  clear hK K
  try simp only [List.setIfInBounds_toArray, List.set_cons_succ, List.set_cons_zero]
  (refine rg_take (v := ?_) 4 rfl (by kernel_rfl) (by kernel_rfl) (by kernel_rfl) (fun _ _ _ h => h) (by rfl) (by assumption) (fun W hW => ?_) ?_; rotate_left; (focus (go_simp; try with_reducible rfl)); (try simp only [List.setIfInBounds_toArray, List.set_cons_succ, List.set_cons_zero]))
  refine rg_done (by kernel_rfl) ?_
  go_wp2_with fail
  go_ret
  exact ⟨rfl, HE1.out.trans (HEb.out.trans (HE2.out.trans hE5))⟩
end Go.Proofs.Ythfkfdfcgldbeaa
