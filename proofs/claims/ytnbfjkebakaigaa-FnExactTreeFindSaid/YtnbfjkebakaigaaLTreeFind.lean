/- The walk of FnExactTreeFind (printed by gen_treelaw.py). -/
import Derived.Test.YtnbfjkebakaigaaTreeF
import Derived.Test.YtnbfjkebakaigaaOpenTree
import Derived.Test.YtnbfjkebakaigaaRg
namespace Go.Proofs.Ytnbfjkebakaigaa
open Go.RowKit Go.Deep
set_option linter.unusedVariables false
set_option maxRecDepth 100000
set_option maxHeartbeats 4000000 in
theorem walk_FnExactTreeFind (w : World) (rt : Int) (An : Option Addr) (nn pn : Nat) (l : List XNode) (wr : (Lit.int .i64 rt).wf = true) (q1 : l.length = nn) (q2 : nn ≤ pn) (q3 : pn ≤ maxLen) (q4 : ∀ x ∈ l, XGood w x) (q5 : Rd w An (l.flatMap XNode.cs)) (ky : ByteArray) (wky : ky.size ≤ maxLen) :
    Calls Try.prog 12 #[.agg #[.int .i64 rt, .slice An nn pn], .string ky] w fun e w' => e = .returned (.bool true) ∧ Ext w w' := by
  have HL := Lib.hid q1
  have HX := Lib.hid (fun x hx => (q4 x hx).1)
  have HR := Lib.hid (show NsR w An l from ⟨q5, fun x hx => (q4 x hx).2.2⟩)
  unfold maxLen at q3
  clear q1 q4 q5 wr
  unfold maxLen at wky
  generalize hNN : l.map XNode.c = N
  have HNN := Lib.hid hNN
  clear hNN
  have hB := Blk.new w 84 [.int .i64 rt, .slice An nn pn]
  have hE0 : Ext w (w.alloc (.cells #[.int .i64 rt, .slice An nn pn] 84)) := (by repeat (first | exact Ext.refl _ | assumption | refine Ext.alloc ?_ _ | refine Ext.drewN ?_ _ | refine Ext.drew ?_ | refine Ext.set ?_ (by dsimp only; omega) _ | refine Ext.trans ?_ (by assumption)))
  have hI := fun W bn (l' : List XNode) (h1 : l'.length = nn) (h2 : l'.map XNode.c = N) (hx : XSm l') (hns : nn ≤ 1099511627776) (hr : NsR W (some ⟨bn, 0, none⟩) l') => impl_TreeFind rt (some ⟨bn, 0, none⟩) nn nn l' N ky W h1 h2 hns hx wky hr
  have hS := fun W bn (l' : List XNode) (h1 : l'.length = nn) (h2 : l'.map XNode.c = N) (hx : XSm l') (hns : nn ≤ 1099511627776) (hr : NsR W (some ⟨bn, 0, none⟩) l') => spec_TreeFind rt (some ⟨bn, 0, none⟩) nn nn l' N ky W h1 h2 hns hx wky hr
  generalize fdV N rt ky = r0 at hI hS
  generalize fdC N rt ky = r1 at hI hS
  have HI := Lib.hid hI
  have HS := Lib.hid hS
  clear hI hS
  have hr0 : (r0 != r0) = false := by simp
  have hr1 : (r1 != r1) = false := by simp
  by_cases hlong : (1048576 : Int) < (ky.size : Int)
  · go_enter Try.func12, Try.ntmps12
    go_wp2_with fail
    go_ret
    exact ⟨rfl, (by repeat (first | exact Ext.refl _ | assumption | refine Ext.alloc ?_ _ | refine Ext.drewN ?_ _ | refine Ext.drew ?_ | refine Ext.set ?_ (by dsimp only; omega) _ | refine Ext.trans ?_ (by assumption)))⟩
  go_enter Try.func12, Try.ntmps12
  go_wp2_with fail
  refine (szTree_t rt An nn pn l 1048576 _ HL.out (by omega) (by omega) (by omega) HX.out (HR.out.ext hE0)).mono ?_
  rintro e w0 ⟨v, rfl, hv1, hv2, hG, E0⟩
  have HG := Lib.hid hG
  clear hG
  by_cases hv : v < 0
  · go_wp2_with fail
    go_ret
    exact ⟨rfl, hE0.trans E0⟩
  have htot := HG.out (by omega)
  have hns : nn ≤ 1099511627776 := by have := xTot_len l; have := HL.out; omega
  have HXS := Lib.hid (XSm.of (l := l) (by omega))
  have HB0 := Lib.hid (hB.ext E0)
  have HR0 := Lib.hid ((HR.out.ext hE0).ext E0)
  have HE0 := Lib.hid (hE0.trans E0)
  clear hB hE0 E0 htot
  obtain ⟨c0, c1⟩ := HB0.out.cells2
  go_wp2_with fail
  refine (toTree_any rt An nn pn l w0 HL.out hns HXS.out HR0.out).mono ?_
  rintro e wa ⟨ba, la, rfl, -, Ba, hca, hoa, -, Ea⟩
  have HCA := Lib.hid (hca.trans HNN.out)
  have HLA := Lib.hid (show la.length = nn by have h := congrArg List.length hca; rw [List.length_map, List.length_map] at h; rw [h]; exact HL.out)
  have HSA := Lib.hid (HXS.out.same hca)
  have HNA := Lib.hid (NsR.own Ba hoa)
  clear c0 c1 hca hoa Ba
  go_wp2_with fail
  refine (HS.out wa _ la HLA.out HCA.out HSA.out hns HNA.out).mono ?_
  rintro e w1 ⟨rfl, E1⟩
  have HE1 := Lib.hid (HE0.out.trans (Ea.trans E1))
  have HB1 := Lib.hid (HB0.out.ext (Ea.trans E1))
  have HR1 := Lib.hid (HR0.out.ext (Ea.trans E1))
  clear Ea E1 HB0 HE0 HR0 HCA HLA HSA HNA
  obtain ⟨c0, c1⟩ := HB1.out.cells2
  go_wp2_with fail
  refine (toTree_any rt An nn pn l w1 HL.out hns HXS.out HR1.out).mono ?_
  rintro e wb ⟨bn, lb, rfl, -, Bb, hcb, hob, -, Eb⟩
  have HCB := Lib.hid (hcb.trans HNN.out)
  have HLB := Lib.hid (show lb.length = nn by have h := congrArg List.length hcb; rw [List.length_map, List.length_map] at h; rw [h]; exact HL.out)
  have HSB := Lib.hid (HXS.out.same hcb)
  have HNB := Lib.hid ((NsR.own Bb hob).ext ((Ext.refl wb).alloc (.cells #[.int .i64 rt, .slice (some ⟨bn, 0, none⟩) nn nn] 89)))
  clear c0 c1 hcb hob Bb
  have HX1 := Lib.hid (Blk.new wb 89 [.int .i64 rt, .slice (some ⟨bn, 0, none⟩) nn nn])
  have HEb := Lib.hid (show Ext w1 (wb.alloc (.cells #[.int .i64 rt, .slice (some ⟨bn, 0, none⟩) nn nn] 89)) from Eb.alloc _)
  clear Eb
  generalize hxx : wb.heap.size = bx at HX1 ⊢
  go_wp2_with fail
  have HIb := Lib.hid (HI.out _ _ lb HLB.out HCB.out HSB.out hns HNB.out)
  generalize wb.alloc (.cells #[.int .i64 rt, .slice (some ⟨bn, 0, none⟩) nn nn] 89) = wc at HX1 HNB HEb HIb ⊢
  clear hxx
  obtain ⟨x0, x1⟩ := HX1.out.cells2
  refine HIb.out.mono ?_
  rintro e w2 ⟨rfl, E2⟩
  have HE2 := Lib.hid E2
  clear E2 HIb x0 x1
  obtain ⟨x0, x1⟩ := (HX1.out.ext HE2.out).cells2
  obtain ⟨c0, c1⟩ := (HB1.out.ext (HEb.out.trans HE2.out)).cells2
  go_wp2_with fail
  refine rg_start (by kernel_rfl) (Ext.refl w2) (fun hE0 => ?_)
  (refine rg_take (v := ?_) 0 rfl (by kernel_rfl) (by kernel_rfl) (by kernel_rfl) (fun _ _ _ h => h) (by rfl) (by assumption) (fun W hW => ?_) ?_; rotate_left; (focus (have k0 := hW.cell x0; have k1 := hW.cell x1; go_simp; try with_reducible rfl)); (try simp only [List.setIfInBounds_toArray, List.set_cons_succ, List.set_cons_zero]))
  (refine rg_take (v := ?_) 1 rfl (by kernel_rfl) (by kernel_rfl) (by kernel_rfl) (fun _ _ _ h => h) (by rfl) (by assumption) (fun W hW => ?_) ?_; rotate_left; (focus (have k0 := hW.cell c0; have k1 := hW.cell c1; go_simp; try with_reducible rfl)); (try simp only [List.setIfInBounds_toArray, List.set_cons_succ, List.set_cons_zero]))
  (refine rg_one 2 (by kernel_rfl) rfl (by rfl) (fun K hK => ?_); go_simp)
  refine (toTree_any rt An nn pn l _ HL.out hns HXS.out ((HR1.out.ext (HEb.out.trans HE2.out)).ext hE0)).mono ?_
  rintro e w4 ⟨bd, ld, rfl, -, Bd, hcd, hod, -, E4⟩
  refine hK _ _ (hE0.trans E4) (fun hE4 => ?_)
  clear hK K
  try simp only [List.setIfInBounds_toArray, List.set_cons_succ, List.set_cons_zero]
  (refine rg_one 3 (by kernel_rfl) rfl (by rfl) (fun K hK => ?_); go_simp)
  refine (eqTree_same rt _ _ nn nn nn lb ld w4 HLB.out (HCB.out.trans (hcd.trans HNN.out).symm) hns HSB.out (HNB.out.ext (HE2.out.trans hE4)) (NsR.own Bd hod)).mono ?_
  rintro e w5 ⟨rfl, E5⟩
  refine hK _ _ (hE4.trans E5) (fun hE5 => ?_)
  clear hK K
  try simp only [List.setIfInBounds_toArray, List.set_cons_succ, List.set_cons_zero]
  (refine rg_take (v := ?_) 4 rfl (by kernel_rfl) (by kernel_rfl) (by kernel_rfl) (fun _ _ _ h => h) (by rfl) (by assumption) (fun W hW => ?_) ?_; rotate_left; (focus (go_simp; try with_reducible rfl)); (try simp only [List.setIfInBounds_toArray, List.set_cons_succ, List.set_cons_zero]))
  refine rg_done (by kernel_rfl) ?_
  go_wp2_with fail
  go_ret
  exact ⟨rfl, HE1.out.trans (HEb.out.trans (HE2.out.trans hE5))⟩
end Go.Proofs.Ytnbfjkebakaigaa
