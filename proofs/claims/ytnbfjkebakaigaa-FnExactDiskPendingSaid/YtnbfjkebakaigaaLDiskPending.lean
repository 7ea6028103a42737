/- The walk of FnExactDiskPending. -/
import Derived.Test.YtnbfjkebakaigaaPend
import Derived.Test.YtnbfjkebakaigaaOpenCDisk
import Derived.Test.YtnbfjkebakaigaaRg
namespace Go.Proofs.Ytnbfjkebakaigaa
open Go.RowKit Go.Deep
set_option linter.unusedVariables false
set_option maxRecDepth 100000
theorem pdL_len (ls : List ByteArray) (lc : List CPending) (ar : Bool) (nk : Nat) : (pdL ls lc ar nk).length ≤ ls.length := by
  unfold pdL; split
  · exact pdUp_len _ _
  · simp
set_option maxHeartbeats 4000000 in
theorem walk_FnExactDiskPending (w : World) (As : Option Addr) (ns ps : Nat) (Ac : Option Addr) (nc pc : Nat) (ar : Bool) (Ak : Option Addr) (nk pk : Nat) (ls : List ByteArray) (lc : List CPending) (lk : List Int) (q1s : ls.length = ns) (q2s : ns ≤ ps) (q3s : ps ≤ maxLen) (q4s : ∀ s ∈ ls, s.size ≤ maxLen) (q5s : Rd w As (ls.map fun c => Value.string c)) (q1c : lc.length = nc) (q2c : nc ≤ pc) (q3c : pc ≤ maxLen) (q4c : ∀ x ∈ lc, (Lit.int .i64 x.a).wf = true ∧ x.c.size ≤ maxLen) (q5c : Rd w Ac (lc.flatMap CPending.cs)) (q1k : lk.length = nk) (q2k : nk ≤ pk) (q3k : pk ≤ maxLen) (q4k : ∀ z ∈ lk, (Lit.int .i64 z).wf = true) (q5k : Rd w Ak (lk.map fun c => Value.int .i64 c)) :
    Calls Try.prog 6 #[.agg #[.slice As ns ps, .slice Ac nc pc, .bool ar, .slice Ak nk pk]] w fun e w' => e = .returned (.bool true) ∧ Ext w w' := by
  have HLs := Lib.hid q1s
  have HXs := Lib.hid q4s
  have HRs := Lib.hid q5s
  unfold maxLen at q3s
  have HLc := Lib.hid q1c
  have HXc := Lib.hid q4c
  have HRc := Lib.hid q5c
  unfold maxLen at q3c
  have HLk := Lib.hid q1k
  have HXk := Lib.hid q4k
  have HRk := Lib.hid q5k
  unfold maxLen at q3k
  clear q1s q4s q5s q1c q4c q5c q1k q4k q5k
  have hB := Blk.new w 34 [.slice As ns ps, .slice Ac nc pc, .bool ar, .slice Ak nk pk]
  have hE0 : Ext w (w.alloc (.cells #[.slice As ns ps, .slice Ac nc pc, .bool ar, .slice Ak nk pk] 34)) := (by repeat (first | exact Ext.refl _ | assumption | refine Ext.alloc ?_ _ | refine Ext.drewN ?_ _ | refine Ext.drew ?_ | refine Ext.set ?_ (by dsimp only; omega) _ | refine Ext.trans ?_ (by assumption)))
  have hI := fun W bs bc bk (Bs : Blk W bs 9 (ls.map fun c => Value.string c)) (Bc : Blk W bc 118 (lc.flatMap CPending.cs)) (Bk : Blk W bk 3 (lk.map fun c => Value.int .i64 c)) (hns : ns ≤ 1099511627776) (hnc : nc ≤ 1099511627776) (hnk : nk ≤ 1099511627776) => impl_DiskPending (some ⟨bs, 0, none⟩) ns ns (some ⟨bc, 0, none⟩) nc nc ar (some ⟨bk, 0, none⟩) nk nk ls lc W HLs.out HLc.out hns hnc hnk HXs.out (fun x hx => (HXc.out x hx).2) Bs.rd Bc.rd
  have hS := fun W bs bc bk (Bs : Blk W bs 9 (ls.map fun c => Value.string c)) (Bc : Blk W bc 118 (lc.flatMap CPending.cs)) (Bk : Blk W bk 3 (lk.map fun c => Value.int .i64 c)) (hns : ns ≤ 1099511627776) (hnc : nc ≤ 1099511627776) (hnk : nk ≤ 1099511627776) => spec_DiskPending (some ⟨bs, 0, none⟩) ns ns (some ⟨bc, 0, none⟩) nc nc ar (some ⟨bk, 0, none⟩) nk nk ls lc W HLs.out HLc.out hns hnc hnk HXs.out (fun x hx => (HXc.out x hx).2) Bs.rd Bc.rd
  have hLL := pdL_len ls lc ar nk
  unfold PdPost at hI hS
  generalize pdL ls lc ar nk = L at hI hS hLL
  generalize pdC ls lc ar nk = C at hI hS
  have HI := Lib.hid hI
  have HS := Lib.hid hS
  clear hI hS
  have hcc : (C != C) = false := by simp
  go_enter Try.func6, Try.ntmps6
  go_wp2_with fail
  refine (szDisk_any As ns ps Ac nc pc ar Ak nk pk ls lc lk 1048576 _ HLs.out HLc.out HLk.out (by omega) (by omega) (by omega) (by omega) (by omega) (fun s hs => HXs.out s hs) (fun s hs => (HXc.out s hs).2) (HRs.out.ext hE0) (HRc.out.ext hE0) (HRk.out.ext hE0)).mono ?_
  rintro e w0 ⟨v, rfl, hv1, hv2, hG, E0⟩
  have HG := Lib.hid hG
  clear hG
  by_cases hv : v < 0
  · go_wp2_with fail
    go_ret
    exact ⟨rfl, hE0.trans E0⟩
  obtain ⟨hms, hmc, hmk⟩ := HG.out (by omega)
  have hns : ns ≤ 1099511627776 := by omega
  have hnc : nc ≤ 1099511627776 := by omega
  have hnk : nk ≤ 1099511627776 := by omega
  have hLn : L.length ≤ 1048576 := by rw [HLs.out] at hLL; omega
  have hLn2 : L.length ≤ 1099511627776 := by omega
  have HB0 := Lib.hid (hB.ext E0)
  have HR0s := Lib.hid ((HRs.out.ext hE0).ext E0)
  have HR0c := Lib.hid ((HRc.out.ext hE0).ext E0)
  have HR0k := Lib.hid ((HRk.out.ext hE0).ext E0)
  have HE0 := Lib.hid (hE0.trans E0)
  clear hB hE0 E0 hLL
  obtain ⟨c0, c1, c2, c3⟩ := HB0.out.cells4
  go_wp2_with fail
  refine (toDisk_any As ns ps Ac nc pc ar Ak nk pk ls lc lk w0 HLs.out HLc.out HLk.out hns hnc hnk (HR0s.out) (HR0c.out) (HR0k.out)).mono ?_
  rintro e wa ⟨ys, yc, yk, rfl, -, Bs, -, Bc, -, Bk, Ea⟩
  clear c0 c1 c2 c3
  go_wp2_with fail
  refine (HS.out wa _ _ _ Bs Bc Bk hns hnc hnk).mono ?_
  rintro e w1 ⟨v1, rfl, O1, E1⟩
  have HV1 := Lib.hid (InS.own O1)
  have HE1 := Lib.hid (HE0.out.trans (Ea.trans E1))
  have HB1 := Lib.hid (HB0.out.ext (Ea.trans E1))
  have HR1s := Lib.hid (HR0s.out.ext (Ea.trans E1))
  have HR1c := Lib.hid (HR0c.out.ext (Ea.trans E1))
  have HR1k := Lib.hid (HR0k.out.ext (Ea.trans E1))
  clear Ea E1 HB0 HE0 Bs HR0s Bc HR0c Bk HR0k O1
  obtain ⟨c0, c1, c2, c3⟩ := HB1.out.cells4
  go_wp2_with fail
  refine (toDisk_any As ns ps Ac nc pc ar Ak nk pk ls lc lk w1 HLs.out HLc.out HLk.out hns hnc hnk (HR1s.out) (HR1c.out) (HR1k.out)).mono ?_
  rintro e wb ⟨bs, bc, bk, rfl, hbs, Bs, hbc, Bc, hbk, Bk, Eb⟩
  clear c0 c1 c2 c3
  have hsc : bs ≠ bc := by
    intro e
    have h1 := Bs
    rw [e] at h1
    have h2 := h1.symm.trans Bc
    simp at h2
  have hsk : bs ≠ bk := by
    intro e
    have h1 := Bs
    rw [e] at h1
    have h2 := h1.symm.trans Bk
    simp at h2
  have hck : bc ≠ bk := by
    intro e
    have h1 := Bc
    rw [e] at h1
    have h2 := h1.symm.trans Bk
    simp at h2
  have HX1 := Lib.hid (Blk.new wb 26 [.slice (some ⟨bs, 0, none⟩) ns ns, .slice (some ⟨bc, 0, none⟩) nc nc, .bool ar, .slice (some ⟨bk, 0, none⟩) nk nk])
  have HBs := Lib.hid (Bs.alloc (.cells #[.slice (some ⟨bs, 0, none⟩) ns ns, .slice (some ⟨bc, 0, none⟩) nc nc, .bool ar, .slice (some ⟨bk, 0, none⟩) nk nk] 26))
  have HBc := Lib.hid (Bc.alloc (.cells #[.slice (some ⟨bs, 0, none⟩) ns ns, .slice (some ⟨bc, 0, none⟩) nc nc, .bool ar, .slice (some ⟨bk, 0, none⟩) nk nk] 26))
  have HBk := Lib.hid (Bk.alloc (.cells #[.slice (some ⟨bs, 0, none⟩) ns ns, .slice (some ⟨bc, 0, none⟩) nc nc, .bool ar, .slice (some ⟨bk, 0, none⟩) nk nk] 26))
  have HEb := Lib.hid (show Ext w1 (wb.alloc (.cells #[.slice (some ⟨bs, 0, none⟩) ns ns, .slice (some ⟨bc, 0, none⟩) nc nc, .bool ar, .slice (some ⟨bk, 0, none⟩) nk nk] 26)) from Eb.alloc _)
  clear Eb Bs Bc Bk
  generalize hxx : wb.heap.size = bx at HX1 ⊢
  go_wp2_with fail
  have HIb := Lib.hid (HI.out _ _ _ _ HBs.out HBc.out HBk.out hns hnc hnk)
  generalize wb.alloc (.cells #[.slice (some ⟨bs, 0, none⟩) ns ns, .slice (some ⟨bc, 0, none⟩) nc nc, .bool ar, .slice (some ⟨bk, 0, none⟩) nk nk] 26) = wc at HX1 HBs HBc HBk HEb HIb ⊢
  clear hxx
  have hslt : bs < wc.heap.size := HBs.out.lt
  have hclt : bc < wc.heap.size := HBc.out.lt
  have hklt : bk < wc.heap.size := HBk.out.lt
  have hxlt : bx < wc.heap.size := HX1.out.lt
  obtain ⟨x0, x1, x2, x3⟩ := HX1.out.cells4
  refine HIb.out.mono ?_
  rintro e w2 ⟨v2, rfl, O2, E2⟩
  have HO2 := Lib.hid O2
  have HE2 := Lib.hid E2
  clear E2 HIb x0 x1 x2 x3 O2
  go_wp2_with fail
  refine (eqIntS_in (InS.own HO2.out) (HV1.out.ext (HEb.out.trans HE2.out)) hLn2).mono ?_
  rintro e w3 ⟨rfl, E3⟩
  have HE3 := Lib.hid (HE2.out.trans E3)
  have HO3 := Lib.hid (own_ext HO2.out E3)
  clear E3 HO2 HE2
  obtain ⟨x0, x1, x2, x3⟩ := (HX1.out.ext HE3.out).cells4
  obtain ⟨c0, c1, c2, c3⟩ := (HB1.out.ext (HEb.out.trans HE3.out)).cells4
  go_wp2_with fail
  refine rg_start (by kernel_rfl) (Ext.refl w3) (fun hE0 => ?_)
  (refine rg_take (v := ?_) 0 rfl (by kernel_rfl) (by kernel_rfl) (by kernel_rfl) (fun _ _ _ h => h) (by rfl) (by assumption) (fun W hW => ?_) ?_; rotate_left; (focus (have k0 := hW.cell x0; have k1 := hW.cell x1; have k2 := hW.cell x2; have k3 := hW.cell x3; go_simp; try with_reducible rfl)); (try simp only [List.setIfInBounds_toArray, List.set_cons_succ, List.set_cons_zero]))
  (refine rg_take (v := ?_) 1 rfl (by kernel_rfl) (by kernel_rfl) (by kernel_rfl) (fun _ _ _ h => h) (by rfl) (by assumption) (fun W hW => ?_) ?_; rotate_left; (focus (have k0 := hW.cell c0; have k1 := hW.cell c1; have k2 := hW.cell c2; have k3 := hW.cell c3; go_simp; try with_reducible rfl)); (try simp only [List.setIfInBounds_toArray, List.set_cons_succ, List.set_cons_zero]))
  (refine rg_one 2 (by kernel_rfl) rfl (by rfl) (fun K hK => ?_); go_simp)
  refine (toDisk_any As ns ps Ac nc pc ar Ak nk pk ls lc lk _ HLs.out HLc.out HLk.out hns hnc hnk ((HR1s.out.ext (HEb.out.trans HE3.out)).ext hE0) ((HR1c.out.ext (HEb.out.trans HE3.out)).ext hE0) ((HR1k.out.ext (HEb.out.trans HE3.out)).ext hE0)).mono ?_
  rintro e w4 ⟨ds, dc, dk, rfl, -, Ds, -, Dc, -, Dk, E4⟩
  refine hK _ _ (hE0.trans E4) (fun hE4 => ?_)
  clear hK K
  try simp only [List.setIfInBounds_toArray, List.set_cons_succ, List.set_cons_zero]
  (refine rg_one 3 (by kernel_rfl) rfl (by rfl) (fun K hK => ?_); go_simp)
  refine (eqDisk_same _ _ ns ns ns _ _ nc nc nc ar _ _ nk nk nk ls lc lk w4 HLs.out HLc.out HLk.out hns hnc hnk (HBs.out.ext (HE3.out.trans hE4)).rd (HBc.out.ext (HE3.out.trans hE4)).rd (HBk.out.ext (HE3.out.trans hE4)).rd Ds.rd Dc.rd Dk.rd).mono ?_
  rintro e w5 ⟨rfl, E5⟩
  refine hK _ _ (hE4.trans E5) (fun hE5 => ?_)
  clear hK K
  try simp only [List.setIfInBounds_toArray, List.set_cons_succ, List.set_cons_zero]
  (refine rg_take (v := ?_) 4 rfl (by kernel_rfl) (by kernel_rfl) (by kernel_rfl) (fun _ _ _ h => h) (by rfl) (by assumption) (fun W hW => ?_) ?_; rotate_left; (focus (go_simp; try with_reducible rfl)); (try simp only [List.setIfInBounds_toArray, List.set_cons_succ, List.set_cons_zero]))
  refine rg_done (by kernel_rfl) ?_
  clear c0 c1 c2 c3
  have HE5 := Lib.hid (HE3.out.trans hE5)
  have HO5 := Lib.hid (own_ext HO3.out hE5)
  obtain ⟨x0, x1, x2, x3⟩ := (HX1.out.ext HE5.out).cells4
  clear Ds Dc Dk E4 hE4 hE5 E5 hE0 HO3 HE3
  have HM := Lib.hid (markDisk_any bs ns ns bc nc nc ar bk nk nk ls lc lk 1 w5 HLs.out HLc.out HLk.out (by omega) (by omega) (by omega) (by omega) (by omega) hsc hsk hck (HBs.out.ext HE5.out) (HBc.out.ext HE5.out) (HBk.out.ext HE5.out))
  go_wp2_with fail
  refine HM.out.mono ?_
  rintro e w6 ⟨rfl, wx, wy, wz, Ex, Gx, Gy, Gz⟩
  have hEb := HEb.out.le
  have hE5 := HE5.out.le
  have hExs := Ex.le
  have hGxs := Gx.size
  have hGys := Gy.size
  have hob : ∀ i, v2.ownBlock = some i → wc.heap.size ≤ i := own_blk HO5.out
  have HO6 := Lib.hid (own_far (own_far (own_far (own_ext HO5.out Ex) Gx (by intro e; have := hob _ e; omega)) Gy (by intro e; have := hob _ e; omega)) Gz (by intro e; have := hob _ e; omega))
  have HE6 := Lib.hid (((((HEb.out.trans HE5.out).trans Ex).grownBy Gx hbs).grownBy Gy hbc).grownBy Gz hbk)
  have HB6 := Lib.hid (HB1.out.ext HE6.out)
  have hk0 : ¬ (1 : Int) + (ns : Int) + 2 * (nc : Int) + (nk : Int) < 0 := by omega
  clear HO5 HE5 Ex Gx Gy Gz HM x0 x1 x2 x3 hEb hE5 hExs hGxs hGys
  go_wp2_with fail
  refine (eqIntS_in (InS.own HO6.out) (HV1.out.ext HE6.out) hLn2).mono ?_
  rintro e w7 ⟨rfl, E7⟩
  have HE7 := Lib.hid (HE6.out.trans E7)
  have HO7 := Lib.hid (own_ext HO6.out E7)
  clear E7 HO6 HE6
  go_wp2_with fail
  refine (markIntS_own wc.heap.size v2 1 L w7 (by omega) (by omega) (by omega) HO7.out).mono ?_
  rintro e w8 ⟨rfl, O8, G8⟩
  have hcw : w1.heap.size ≤ wc.heap.size := HEb.out.le
  have HE8 := Lib.hid (HE7.out.grown G8 (fun k hk => by have := hob k hk; omega))
  have HO8 := Lib.hid O8
  clear O8 G8 HO7 HE7 hob
  obtain ⟨A2, cap2, rfl, hr2⟩ := own_rdI HO8.out
  have HR2 := Lib.hid hr2
  clear hr2
  go_wp2_with fail
  refine (heldIntS_any A2 L.length cap2 1 w8 (by omega) (by omega) (by omega) HR2.out).mono ?_
  rintro e w9 ⟨rfl, rfl⟩
  have hne : ((1 : Int) + (L.length : Int) != 1 + (L.length : Int)) = false := by simp
  have hk1 : ¬ (1 : Int) + (L.length : Int) < 0 := by omega
  clear HO8
  obtain ⟨c0, c1, c2, c3⟩ := (HB1.out.ext HE8.out).cells4
  go_wp2_with fail
  refine (toDisk_any As ns ps Ac nc pc ar Ak nk pk ls lc lk w8 HLs.out HLc.out HLk.out hns hnc hnk (HR1s.out.ext HE8.out) (HR1c.out.ext HE8.out) (HR1k.out.ext HE8.out)).mono ?_
  rintro e wd ⟨zs, zc, zk, rfl, -, Bzs, -, Bzc, -, Bzk, Ed⟩
  clear c0 c1 c2 c3
  go_wp2_with fail
  refine (HI.out wd _ _ _ Bzs Bzc Bzk hns hnc hnk).mono ?_
  rintro e wf ⟨vf, rfl, Of, Ef⟩
  have HOf := Lib.hid Of
  have HEf := Lib.hid (Ed.trans Ef)
  clear Of Bzs Bzc Bzk Ed Ef
  go_wp2_with fail
  refine (eqIntS_in (InS.own HOf.out) (HV1.out.ext (HE8.out.trans HEf.out)) hLn2).mono ?_
  rintro e wg ⟨rfl, Eg⟩
  go_wp2_with fail
  refine (heldIntS_any A2 L.length cap2 1 wg (by omega) (by omega) (by omega) (HR2.out.ext (HEf.out.trans Eg))).mono ?_
  rintro e wh ⟨rfl, rfl⟩
  go_wp2_with fail
  go_ret
  exact ⟨rfl, HE1.out.trans (HE8.out.trans (HEf.out.trans Eg))⟩
end Go.Proofs.Ytnbfjkebakaigaa
