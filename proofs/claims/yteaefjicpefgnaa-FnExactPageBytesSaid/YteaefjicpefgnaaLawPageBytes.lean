/- The walk of FnExactPageBytes. -/
import Derived.Test.YteaefjicpefgnaaPageB
import Derived.Test.YteaefjicpefgnaaNewPage
import Derived.Test.YteaefjicpefgnaaMarkS
namespace Go.Proofs.Yteaefjicpefgnaa
open Go.RowKit Go.Deep
set_option linter.unusedVariables false
set_option maxRecDepth 100000
set_option maxHeartbeats 4000000 in
theorem walk_FnExactPageBytes (w : World) (no : Int) (wno : (Lit.int .i64 no).wf = true) (k : Int) (A : Option Addr) (n cp : Nat) (l : List ByteArray) (wk : (Lit.int .i64 k).wf = true) (hl : l.length = n) (hc : n ≤ cp) (hm : cp ≤ maxLen) (hx : ∀ s ∈ l, s.size ≤ maxLen) (hr : Rd w A (l.map fun c => Value.string c)) :
    Calls Try.prog 8 #[.int .i64 no, .agg #[.int .i64 k, .slice A n cp]] w fun e w' => e = .returned (.bool true) ∧ Ext w w' := by
  have HLL := Lib.hid hl
  have HX := Lib.hid hx
  clear hl hx wk wno
  unfold maxLen at hm
  have hB := Blk.new w 42 [.int .i64 k, .slice A n cp]
  have hE0 : Ext w (w.alloc (.cells #[.int .i64 k, .slice A n cp] 42)) := (by repeat (first | exact Ext.refl _ | assumption | refine Ext.alloc ?_ _ | refine Ext.drewN ?_ _ | refine Ext.drew ?_ | refine Ext.set ?_ (by dsimp only; omega) _ | refine Ext.trans ?_ (by assumption)))
  have hI := fun W b (hW : Blk W b 9 (l.map fun c => Value.string c)) (hn : n ≤ 1099511627776) => impl_PageBytes no k (some ⟨b, 0, none⟩) n n l W HLL.out hn HX.out hW.rd hW.stay
  have hS := fun W b (hW : Blk W b 9 (l.map fun c => Value.string c)) (hn : n ≤ 1099511627776) => spec_PageBytes no k (some ⟨b, 0, none⟩) n n l W HLL.out hn HX.out hW.rd
  have hll := pbL_len no k l
  generalize pbL no k l = L at hI hS hll
  generalize pbC no k l = C at hI hS
  have HI := Lib.hid hI
  have HS := Lib.hid hS
  clear hI hS
  have hnL : L.length ≤ 1099511627776 := by omega
  have hcc : (C != C) = false := by simp
  go_enter Try.func8, Try.ntmps8
  go_wp2_with fail
  refine (szPage_any k A n cp l 1048576 _ HLL.out (by omega) (by omega) (by omega) HX.out (hr.ext hE0)).mono ?_
  rintro e w0 ⟨v, rfl, hv1, hv2, hG, E0⟩
  have HG := Lib.hid hG
  clear hG
  by_cases hv : v < 0
  · go_wp2_with fail
    go_ret
    exact ⟨rfl, hE0.trans E0⟩
  have hn2 : n ≤ 1048576 := by have := (HG.out (by omega)).1; rw [HLL.out] at this; omega
  have hn : n ≤ 1099511627776 := by omega
  have HB0 := Lib.hid (hB.ext E0)
  have HR0 := Lib.hid ((hr.ext hE0).ext E0)
  have HE0 := Lib.hid (hE0.trans E0)
  clear hB hr hE0 E0
  obtain ⟨c0, c1⟩ := HB0.out.cells2
  go_wp2_with fail
  refine (toPage_any k A n cp l w0 HLL.out hn HR0.out).mono ?_
  rintro e wa ⟨ba, rfl, hba, Ba, Ea⟩
  clear c0 c1
  go_wp2_with fail
  refine (HS.out wa _ Ba hn).mono ?_
  rintro e w1 ⟨v1, rfl, O1, E1⟩
  have HS1 := Lib.hid (Sl.own O1)
  have HE1 := Lib.hid (HE0.out.trans (Ea.trans E1))
  have HB1 := Lib.hid (HB0.out.ext (Ea.trans E1))
  have HR1 := Lib.hid (HR0.out.ext (Ea.trans E1))
  clear O1 Ba Ea E1 HB0 HR0 HE0
  obtain ⟨c0, c1⟩ := HB1.out.cells2
  go_wp2_with fail
  refine (toPage_any k A n cp l w1 HLL.out hn HR1.out).mono ?_
  rintro e wb ⟨bb, rfl, hbb, Bb, Eb⟩
  clear c0 c1
  have HX1 := Lib.hid (Blk.new wb 45 [.int .i64 k, .slice (some ⟨bb, 0, none⟩) n n])
  have HBb := Lib.hid (Bb.alloc (.cells #[.int .i64 k, .slice (some ⟨bb, 0, none⟩) n n] 45))
  have HEb := Lib.hid (show Ext w1 (wb.alloc (.cells #[.int .i64 k, .slice (some ⟨bb, 0, none⟩) n n] 45)) from Eb.alloc _)
  clear Bb Eb
  have hxb : wb.heap.size ≠ bb := by have := HBb.out.lt; have := HX1.out.lt; intro e; have h1 := HBb.out; have h2 := HX1.out; unfold Blk at h1 h2; rw [e, h1] at h2; injection h2 with h2; injection h2 with h2 h3; exact absurd h3 (by decide)
  have hbb1 := HEb.out.le
  generalize hxx : wb.heap.size = bx at HX1 hxb ⊢
  go_wp2_with fail
  have HIb := Lib.hid (HI.out _ _ HBb.out hn)
  generalize wb.alloc (.cells #[.int .i64 k, .slice (some ⟨bb, 0, none⟩) n n] 45) = wc at HX1 HBb HEb HIb hbb1 ⊢
  obtain ⟨x0, x1⟩ := HX1.out.cells2
  refine HIb.out.mono ?_
  rintro e w2 ⟨v2, rfl, O2, E2⟩
  have HO2 := Lib.hid O2
  have HE2 := Lib.hid E2
  clear O2 E2 HIb x0 x1
  go_wp2_with fail
  refine (eqByteS_sl (Sl.own HO2.out) (HS1.out.ext (HEb.out.trans HE2.out)) hnL).mono ?_
  rintro e w3 ⟨rfl, E3, -⟩
  have HE3 := Lib.hid (HE2.out.trans E3)
  have HO3 := Lib.hid (own_ext HO2.out E3)
  clear E3 HE2 HO2
  obtain ⟨x0, x1⟩ := (HX1.out.ext HE3.out).cells2
  obtain ⟨c0, c1⟩ := (HB1.out.ext (HEb.out.trans HE3.out)).cells2
  go_wp2_with fail
  refine rg_start (by kernel_rfl) (Ext.refl w3) (fun hE0 => ?_)
  (refine rg_take (v := ?_) 0 rfl (by kernel_rfl) (by kernel_rfl) (by kernel_rfl) (fun _ _ _ h => h) (by rfl) (by assumption) (fun W hW => ?_) ?_; rotate_left; (focus (have k0 := hW.cell x0; have k1 := hW.cell x1; go_simp; try with_reducible rfl)); simp only [List.setIfInBounds_toArray, List.set_cons_succ, List.set_cons_zero])
  (refine rg_take (v := ?_) 1 rfl (by kernel_rfl) (by kernel_rfl) (by kernel_rfl) (fun _ _ _ h => h) (by rfl) (by assumption) (fun W hW => ?_) ?_; rotate_left; (focus (have k0 := hW.cell c0; have k1 := hW.cell c1; go_simp; try with_reducible rfl)); simp only [List.setIfInBounds_toArray, List.set_cons_succ, List.set_cons_zero])
  (refine rg_one 2 (by kernel_rfl) rfl (by rfl) (fun K hK => ?_); go_simp)
  have HR3 := Lib.hid (HR1.out.ext (HEb.out.trans HE3.out))
  refine (toPage_any k A n cp l _ HLL.out hn (HR3.out.ext hE0)).mono ?_
  rintro e w4 ⟨b4, rfl, hb4, B4, E4⟩
  refine hK _ _ (hE0.trans E4) (fun hE4 => ?_)
  clear hK K
  try simp only [List.setIfInBounds_toArray, List.set_cons_succ, List.set_cons_zero]
  (refine rg_one 3 (by kernel_rfl) rfl (by rfl) (fun K hK => ?_); go_simp)
  refine (eqPage_same k _ _ n n n l w4 HLL.out hn (HBb.out.ext (HE3.out.trans hE4)).rd B4.rd).mono ?_
  rintro e w5 ⟨rfl, E5⟩
  refine hK _ _ (hE4.trans E5) (fun hE5 => ?_)
  clear hK K
  try simp only [List.setIfInBounds_toArray, List.set_cons_succ, List.set_cons_zero]
  (refine rg_take (v := ?_) 4 rfl (by kernel_rfl) (by kernel_rfl) (by kernel_rfl) (fun _ _ _ h => h) (by rfl) (by assumption) (fun W hW => ?_) ?_; rotate_left; (focus (go_simp; try with_reducible rfl)); simp only [List.setIfInBounds_toArray, List.set_cons_succ, List.set_cons_zero])
  refine rg_done (by kernel_rfl) ?_
  have HE5 := Lib.hid (HE3.out.trans hE5)
  have HO5 := Lib.hid (own_ext HO3.out hE5)
  clear hE0 hE4 hE5 E4 E5 x0 x1 c0 c1 HO3 HE3 B4 HR3 hb4
  obtain ⟨x0, x1⟩ := (HX1.out.ext HE5.out).cells2
  have B5 := HBb.out.ext HE5.out
  have HM := Lib.hid (markPage_any bb n n k 1 l [] w5 (by omega) (by omega) (by omega) HLL.out (by rw [List.append_nil]; exact B5))
  go_wp2_with fail
  refine HM.out.mono ?_
  rintro e w6 ⟨rfl, B6, G6⟩
  have hne := (own_apart HO5.out B5 (by decide)).symm
  have HO6 := Lib.hid (own_far HO5.out G6 hne)
  have hbb2 : w1.heap.size ≤ bb := hbb
  have X6 : Ext w1 w6 := (HEb.out.trans HE5.out).grownBy G6 hbb2
  have HX6 := Lib.hid X6
  clear X6 HM B5 B6 G6 x0 x1 hne HO5 hxb
  go_wp2_with fail
  refine (eqByteS_sl (Sl.own HO6.out) (HS1.out.ext HX6.out) hnL).mono ?_
  rintro e w7 ⟨rfl, E7, -⟩
  have HO7 := Lib.hid (own_ext HO6.out E7)
  have HX7 := Lib.hid (HX6.out.trans E7)
  clear HO6 HX6 E7
  go_wp2_with fail
  refine (markByteS_any wc.heap.size L.length v2 1 _ w7 hnL (by omega) (by omega) HO7.out).mono ?_
  rintro e w8 ⟨rfl, O8, G8⟩
  have HX8 := Lib.hid (HX7.out.grown G8 (fun q hq => Nat.le_trans HEb.out.le (own_blk HO7.out q hq)))
  have HO8 := Lib.hid O8
  obtain ⟨A2, cap2, rfl⟩ := own_slice HO7.out
  clear O8 G8 HO7 HX7
  go_wp2_with fail
  refine (heldByteS_any A2 L.length cap2 1 w8 hnL (by omega) (by omega) (own_rd' HO8.out).2).mono ?_
  rintro e w9 ⟨rfl, rfl⟩
  obtain ⟨c0, c1⟩ := (HB1.out.ext HX8.out).cells2
  go_wp2_with fail
  refine (toPage_any k A n cp l w8 HLL.out hn (HR1.out.ext HX8.out)).mono ?_
  rintro e wd ⟨bd, rfl, hbd, Bd, Ed⟩
  clear c0 c1
  have HOd := Lib.hid (own_ext HO8.out Ed)
  have HXd := Lib.hid (HX8.out.trans Ed)
  clear HO8 HX8 Ed
  go_wp2_with fail
  refine (HI.out wd _ Bd hn).mono ?_
  rintro e we ⟨v9, rfl, O9, E9⟩
  have HO9 := Lib.hid O9
  have HOe := Lib.hid (own_ext HOd.out E9)
  have HXe := Lib.hid (HXd.out.trans E9)
  clear O9 E9 HOd HXd Bd
  go_wp2_with fail
  refine (eqByteS_sl (Sl.own HO9.out) (HS1.out.ext HXe.out) hnL).mono ?_
  rintro e wf ⟨rfl, Ef, -⟩
  go_wp2_with fail
  refine (heldByteS_any A2 L.length cap2 1 wf hnL (by omega) (by omega) (own_rd' (own_ext HOe.out Ef)).2).mono ?_
  rintro e wg ⟨rfl, rfl⟩
  go_wp2_with fail
  go_ret
  exact ⟨rfl, HE1.out.trans (HXe.out.trans Ef)⟩
end Go.Proofs.Yteaefjicpefgnaa
