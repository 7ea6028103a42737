/- The walk of FnExactTreeRange (printed by gen_treerange.py). -/
import Derived.Test.YtnbfjkebakaigaaTreeR
import Derived.Test.YtnbfjkebakaigaaMarkT
import Derived.Test.YtnbfjkebakaigaaOpenTree
import Derived.Test.YtnbfjkebakaigaaRg
namespace Go.Proofs.Ytnbfjkebakaigaa
open Go.RowKit Go.Deep
set_option linter.unusedVariables false
set_option maxRecDepth 100000
theorem xTot_map (l : List XNode) : xTot l = ((l.map XNode.c).map fun c => 1 + c.ks.length + c.ds.length).sum := by
  unfold xTot; rw [List.map_map]; rfl
theorem xTot_same {l l' : List XNode} (e : l'.map XNode.c = l.map XNode.c) : xTot l' = xTot l := by rw [xTot_map, xTot_map, e]
set_option maxHeartbeats 4000000 in
theorem walk_FnExactTreeRange (w : World) (rt : Int) (An : Option Addr) (nn pn : Nat) (l : List XNode) (wr : (Lit.int .i64 rt).wf = true) (q1 : l.length = nn) (q2 : nn ≤ pn) (q3 : pn ≤ maxLen) (q4 : ∀ x ∈ l, XGood w x) (q5 : Rd w An (l.flatMap XNode.cs)) (fa : ByteArray) (wfa : fa.size ≤ maxLen) (fb : ByteArray) (wfb : fb.size ≤ maxLen) :
    Calls Try.prog 13 #[.agg #[.int .i64 rt, .slice An nn pn], .string fa, .string fb] w fun e w' => e = .returned (.bool true) ∧ Ext w w' := by
  have HL := Lib.hid q1
  have HX := Lib.hid (fun x hx => (q4 x hx).1)
  have HR := Lib.hid (show NsR w An l from ⟨q5, fun x hx => (q4 x hx).2.2⟩)
  unfold maxLen at q3
  clear q1 q4 q5 wr
  unfold maxLen at wfa wfb
  generalize hNN : l.map XNode.c = N
  have HNN := Lib.hid hNN
  clear hNN
  have hB := Blk.new w 84 [.int .i64 rt, .slice An nn pn]
  have hE0 : Ext w (w.alloc (.cells #[.int .i64 rt, .slice An nn pn] 84)) := (by repeat (first | exact Ext.refl _ | assumption | refine Ext.alloc ?_ _ | refine Ext.drewN ?_ _ | refine Ext.drew ?_ | refine Ext.set ?_ (by dsimp only; omega) _ | refine Ext.trans ?_ (by assumption)))
  have hI := fun W bn (l' : List XNode) (h1 : l'.length = nn) (h2 : l'.map XNode.c = N) (hx : XSm l') (hns : nn ≤ 1099511627776) (hr : NsR W (some ⟨bn, 0, none⟩) l') => impl_TreeRange rt (some ⟨bn, 0, none⟩) nn nn l' N fa fb W h1 h2 hns hx wfa wfb hr
  have hS := fun W bn (l' : List XNode) (h1 : l'.length = nn) (h2 : l'.map XNode.c = N) (hx : XSm l') (hns : nn ≤ 1099511627776) (hr : NsR W (some ⟨bn, 0, none⟩) l') => spec_TreeRange rt (some ⟨bn, 0, none⟩) nn nn l' N fa fb W h1 h2 hns hx wfa wfb hr
  have hLL := rgL_len N rt fa fb
  unfold RgPost at hI hS
  generalize rgL N rt fa fb = G at hI hS hLL
  generalize rgC N rt fa fb = C at hI hS
  have HI := Lib.hid hI
  have HS := Lib.hid hS
  clear hI hS
  have hcc : (C != C) = false := by simp
  have hG2 : G.length ≤ 1099511627776 := by omega
  by_cases hlong : (1048576 : Int) < (fa.size : Int)
  · go_enter Try.func13, Try.ntmps13
    go_wp2_with fail
    go_ret
    exact ⟨rfl, (by repeat (first | exact Ext.refl _ | assumption | refine Ext.alloc ?_ _ | refine Ext.drewN ?_ _ | refine Ext.drew ?_ | refine Ext.set ?_ (by dsimp only; omega) _ | refine Ext.trans ?_ (by assumption)))⟩
  by_cases hlong2 : (1048576 : Int) < (fb.size : Int)
  · go_enter Try.func13, Try.ntmps13
    go_wp2_with fail
    go_ret
    exact ⟨rfl, (by repeat (first | exact Ext.refl _ | assumption | refine Ext.alloc ?_ _ | refine Ext.drewN ?_ _ | refine Ext.drew ?_ | refine Ext.set ?_ (by dsimp only; omega) _ | refine Ext.trans ?_ (by assumption)))⟩
  go_enter Try.func13, Try.ntmps13
  go_wp2_with fail
  refine (szTree_t rt An nn pn l 1048576 _ HL.out (by omega) (by omega) (by omega) HX.out (HR.out.ext hE0)).mono ?_
  rintro e w0 ⟨v, rfl, hv1, hv2, hG, E0⟩
  have HG := Lib.hid hG
  clear hG
  by_cases hv : v < 0
  · go_wp2_with fail
    go_ret
    exact ⟨rfl, hE0.trans E0⟩
  have htot := HG.out (by omega)
  have hns : nn ≤ 1099511627776 := by have := xTot_len l; have := HL.out; omega
  have HXS := Lib.hid (XSm.of (l := l) (by omega))
  have HTOT := Lib.hid (show xTot l ≤ 1048576 by omega)
  have HB0 := Lib.hid (hB.ext E0)
  have HR0 := Lib.hid ((HR.out.ext hE0).ext E0)
  have HE0 := Lib.hid (hE0.trans E0)
  clear hB hE0 E0 htot
  obtain ⟨c0, c1⟩ := HB0.out.cells2
  go_wp2_with fail
  refine (toTree_any rt An nn pn l w0 HL.out hns HXS.out HR0.out).mono ?_
  rintro e wa ⟨ba, la, rfl, -, Ba, hca, hoa, -, Ea⟩
  have HCA := Lib.hid (hca.trans HNN.out)
  have HLA := Lib.hid (show la.length = nn by have h := congrArg List.length hca; rw [List.length_map, List.length_map] at h; rw [h]; exact HL.out)
  have HSA := Lib.hid (HXS.out.same hca)
  have HNA := Lib.hid (NsR.own Ba hoa)
  clear c0 c1 hca hoa Ba
  go_wp2_with fail
  refine (HS.out wa _ la HLA.out HCA.out HSA.out hns HNA.out).mono ?_
  rintro e w1 ⟨v1, rfl, O1, E1⟩
  have HV1 := Lib.hid (StS.own O1)
  have HE1 := Lib.hid (HE0.out.trans (Ea.trans E1))
  have HB1 := Lib.hid (HB0.out.ext (Ea.trans E1))
  have HR1 := Lib.hid (HR0.out.ext (Ea.trans E1))
  clear Ea E1 HB0 HE0 HR0 HCA HLA HSA HNA O1
  obtain ⟨c0, c1⟩ := HB1.out.cells2
  go_wp2_with fail
  refine (toTree_any rt An nn pn l w1 HL.out hns HXS.out HR1.out).mono ?_
  rintro e wb ⟨bn, lb, rfl, hbn, Bb, hcb, hob, hpb, Eb⟩
  have HCB := Lib.hid (hcb.trans HNN.out)
  have HLB := Lib.hid (show lb.length = nn by have h := congrArg List.length hcb; rw [List.length_map, List.length_map] at h; rw [h]; exact HL.out)
  have HSB := Lib.hid (HXS.out.same hcb)
  have HTB := Lib.hid (show xTot lb ≤ 1048576 by rw [xTot_same hcb]; exact HTOT.out)
  have HPB := Lib.hid hpb
  have HBB := Lib.hid (Bb.ext ((Ext.refl wb).alloc (.cells #[.int .i64 rt, .slice (some ⟨bn, 0, none⟩) nn nn] 89)))
  have HOB := Lib.hid (fun x hx => (hob x hx).ext ((Ext.refl wb).alloc (.cells #[.int .i64 rt, .slice (some ⟨bn, 0, none⟩) nn nn] 89)))
  clear c0 c1 hcb hob Bb hpb
  have HX1 := Lib.hid (Blk.new wb 89 [.int .i64 rt, .slice (some ⟨bn, 0, none⟩) nn nn])
  have HEb := Lib.hid (show Ext w1 (wb.alloc (.cells #[.int .i64 rt, .slice (some ⟨bn, 0, none⟩) nn nn] 89)) from Eb.alloc _)
  clear Eb
  generalize hxx : wb.heap.size = bx at HX1 ⊢
  go_wp2_with fail
  have HIb := Lib.hid (HI.out _ _ lb HLB.out HCB.out HSB.out hns (NsR.own HBB.out HOB.out))
  generalize wb.alloc (.cells #[.int .i64 rt, .slice (some ⟨bn, 0, none⟩) nn nn] 89) = wc at HX1 HBB HOB HEb HIb ⊢
  clear hxx
  obtain ⟨x0, x1⟩ := HX1.out.cells2
  refine HIb.out.mono ?_
  rintro e w2 ⟨v2, rfl, O2, E2⟩
  have HO2 := Lib.hid O2
  have HE2 := Lib.hid E2
  clear E2 HIb x0 x1 O2
  go_wp2_with fail
  refine (eqStringS_st (StS.own HO2.out) (HV1.out.ext (HEb.out.trans HE2.out)) hG2).mono ?_
  rintro e w3 ⟨rfl, E3⟩
  have HE3 := Lib.hid (HE2.out.trans E3)
  have HO3 := Lib.hid (own_ext HO2.out E3)
  clear E3 HO2 HE2
  obtain ⟨x0, x1⟩ := (HX1.out.ext HE3.out).cells2
  obtain ⟨c0, c1⟩ := (HB1.out.ext (HEb.out.trans HE3.out)).cells2
  go_wp2_with fail
  refine rg_start (by kernel_rfl) (Ext.refl w3) (fun hE0 => ?_)
  (refine rg_take (v := ?_) 0 rfl (by kernel_rfl) (by kernel_rfl) (by kernel_rfl) (fun _ _ _ h => h) (by rfl) (by assumption) (fun W hW => ?_) ?_; rotate_left; (focus (have k0 := hW.cell x0; have k1 := hW.cell x1; go_simp; try with_reducible rfl)); (try simp only [List.setIfInBounds_toArray, List.set_cons_succ, List.set_cons_zero]))
  (refine rg_take (v := ?_) 1 rfl (by kernel_rfl) (by kernel_rfl) (by kernel_rfl) (fun _ _ _ h => h) (by rfl) (by assumption) (fun W hW => ?_) ?_; rotate_left; (focus (have k0 := hW.cell c0; have k1 := hW.cell c1; go_simp; try with_reducible rfl)); (try simp only [List.setIfInBounds_toArray, List.set_cons_succ, List.set_cons_zero]))
  (refine rg_one 2 (by kernel_rfl) rfl (by rfl) (fun K hK => ?_); go_simp)
  refine (toTree_any rt An nn pn l _ HL.out hns HXS.out ((HR1.out.ext (HEb.out.trans HE3.out)).ext hE0)).mono ?_
  rintro e w4 ⟨bd, ld, rfl, -, Bd, hcd, hod, -, E4⟩
  refine hK _ _ (hE0.trans E4) (fun hE4 => ?_)
  clear hK K
  try simp only [List.setIfInBounds_toArray, List.set_cons_succ, List.set_cons_zero]
  (refine rg_one 3 (by kernel_rfl) rfl (by rfl) (fun K hK => ?_); go_simp)
  refine (eqTree_same rt _ _ nn nn nn lb ld w4 HLB.out (HCB.out.trans (hcd.trans HNN.out).symm) hns HSB.out (NsR.own (HBB.out.ext (HE3.out.trans hE4)) (fun x hx => (HOB.out x hx).ext (HE3.out.trans hE4))) (NsR.own Bd hod)).mono ?_
  rintro e w5 ⟨rfl, E5⟩
  refine hK _ _ (hE4.trans E5) (fun hE5 => ?_)
  clear hK K
  try simp only [List.setIfInBounds_toArray, List.set_cons_succ, List.set_cons_zero]
  (refine rg_take (v := ?_) 4 rfl (by kernel_rfl) (by kernel_rfl) (by kernel_rfl) (fun _ _ _ h => h) (by rfl) (by assumption) (fun W hW => ?_) ?_; rotate_left; (focus (go_simp; try with_reducible rfl)); (try simp only [List.setIfInBounds_toArray, List.set_cons_succ, List.set_cons_zero]))
  refine rg_done (by kernel_rfl) ?_
  clear c0 c1
  have HE5 := Lib.hid (HE3.out.trans hE5)
  have HO5 := Lib.hid (own_ext HO3.out hE5)
  obtain ⟨x0, x1⟩ := (HX1.out.ext HE5.out).cells2
  clear Bd hcd hod E4 hE4 hE5 E5 hE0 HO3 HE3
  have HM := Lib.hid (markTree_any rt bn nn nn 1 lb w1.heap.size wc.heap.size w5 HLB.out (by omega) (by have := HTB.out; omega) hbn HBB.out.lt (HEb.out.trans HE5.out).le HE5.out.le (HBB.out.ext HE5.out) (fun x hx => (HOB.out x hx).ext HE5.out) (fun x hx => ⟨(HOB.out x hx).Bk.lt, (HOB.out x hx).Bi.lt⟩) HPB.out)
  have hk0 : ¬ (1 : Int) + (xTot lb : Int) < 0 := by omega
  generalize (1 : Int) + (xTot lb : Int) = kk at HM hk0
  go_wp2_with fail
  refine HM.out.mono ?_
  rintro e w6 ⟨rfl, hM⟩
  have HO6 := Lib.hid (hM.own HO5.out)
  have HE6 := Lib.hid (hM.ext (HEb.out.trans HE5.out))
  clear HO5 HE5 HM x0 x1 hM
  go_wp2_with fail
  refine (eqStringS_st (StS.own HO6.out) (HV1.out.ext HE6.out) hG2).mono ?_
  rintro e w7 ⟨rfl, E7⟩
  have HE7 := Lib.hid (HE6.out.trans E7)
  have HO7 := Lib.hid (own_ext HO6.out E7)
  clear E7 HO6 HE6
  go_wp2_with fail
  refine (markStringS_own wc.heap.size v2 1 G w7 (by omega) (by omega) (by omega) HO7.out).mono ?_
  rintro e w8 ⟨rfl, O8, G8⟩
  have hob : ∀ i, v2.ownBlock = some i → wc.heap.size ≤ i := own_blk HO7.out
  have hcw : w1.heap.size ≤ wc.heap.size := HEb.out.le
  have HE8 := Lib.hid (HE7.out.grown G8 (fun k hk => by have := hob k hk; omega))
  have HO8 := Lib.hid O8
  clear O8 G8 HO7 HE7 hob
  obtain ⟨A2, cap2, rfl, hr2, -, -⟩ := own_rd HO8.out
  have HR2 := Lib.hid hr2
  clear hr2
  go_wp2_with fail
  refine (heldStringS_any A2 G.length cap2 1 w8 (by omega) (by omega) (by omega) HR2.out).mono ?_
  rintro e w9 ⟨rfl, E9⟩
  have HE9 := Lib.hid (HE8.out.trans E9)
  have HR9 := Lib.hid (HR2.out.ext E9)
  have hne : ((1 : Int) + (G.length : Int) != 1 + (G.length : Int)) = false := by simp
  have hk1 : ¬ (1 : Int) + (G.length : Int) < 0 := by omega
  clear E9 HR2 HE8 HO8
  obtain ⟨c0, c1⟩ := (HB1.out.ext HE9.out).cells2
  go_wp2_with fail
  refine (toTree_any rt An nn pn l w9 HL.out hns HXS.out (HR1.out.ext HE9.out)).mono ?_
  rintro e wd ⟨bz, lz, rfl, -, Bz, hcz, hoz, -, Ed⟩
  have HCZ := Lib.hid (hcz.trans HNN.out)
  have HLZ := Lib.hid (show lz.length = nn by have h := congrArg List.length hcz; rw [List.length_map, List.length_map] at h; rw [h]; exact HL.out)
  have HSZ := Lib.hid (HXS.out.same hcz)
  have HNZ := Lib.hid (NsR.own Bz hoz)
  clear c0 c1 hcz hoz Bz
  go_wp2_with fail
  refine (HI.out wd _ lz HLZ.out HCZ.out HSZ.out hns HNZ.out).mono ?_
  rintro e wf ⟨vf, rfl, Of, Ef⟩
  have HOf := Lib.hid Of
  have HEf := Lib.hid (Ed.trans Ef)
  clear Of Ed Ef
  go_wp2_with fail
  refine (eqStringS_st (StS.own HOf.out) (HV1.out.ext (HE9.out.trans HEf.out)) hG2).mono ?_
  rintro e wg ⟨rfl, Eg⟩
  go_wp2_with fail
  refine (heldStringS_any A2 G.length cap2 1 wg (by omega) (by omega) (by omega) (HR9.out.ext (HEf.out.trans Eg))).mono ?_
  rintro e wh ⟨rfl, Eh⟩
  go_wp2_with fail
  go_ret
  exact ⟨rfl, HE1.out.trans (HE9.out.trans (HEf.out.trans (Eg.trans Eh)))⟩
end Go.Proofs.Ytnbfjkebakaigaa
