/- The walk of FnExactReadPage. -/
import Derived.Test.YteaefjicpefgnaaReadPage2
import Derived.Test.YteaefjicpefgnaaNewPage
import Derived.Test.YteaefjicpefgnaaMarkS
import Derived.Test.YteaefjicpefgnaaBytes
namespace Go.Proofs.Yteaefjicpefgnaa
open Go.RowKit Go.Deep
set_option linter.unusedVariables false
set_option maxRecDepth 100000
theorem rpL_len (no : Int) (l : List UInt8) : (rpL no l).length < 256 := by
  unfold rpL; split
  · exact (pgF_small _).1
  · simp
theorem markPage_own (B : Nat) (x k : Int) (v : Value) (l : List ByteArray) (w : World) (hn : l.length ≤ 2000000) (h1 : 1 ≤ k) (h2 : k ≤ 4000000) (ho : w.ownsRow B 9 1 v l.length (l.map fun c => Value.string c)) :
    Calls Try.prog 39 #[.agg #[.int .i64 x, v], .int .i64 k] w fun e w' => e = .returned (.int .i64 (k + l.length)) ∧ w'.ownsRow B 9 1 v l.length ((marks k l.length).map fun c => Value.string c) ∧ w.grownBy w' v.ownBlock := by
  have E0 : Ext w (w.alloc (.cells #[.int .i64 x, v] 45)) := (by repeat (first | exact Ext.refl _ | assumption | refine Ext.alloc ?_ _ | refine Ext.drewN ?_ _ | refine Ext.drew ?_ | refine Ext.set ?_ (by dsimp only; omega) _ | refine Ext.trans ?_ (by assumption)))
  have HC := Lib.hid (markStringS_own B v k l (w.alloc (.cells #[.int .i64 x, v] 45)) hn h1 h2 (own_ext ho E0))
  obtain ⟨A, cap, rfl⟩ := own_slice ho
  clear ho
  go_enter Try.func39, Try.ntmps39
  go_wp2_with fail
  refine (HC.out).mono ?_
  rintro e w1 ⟨rfl, B1, G1⟩
  go_wp2_with fail
  go_ret
  exact ⟨rfl, B1, grown_pre' E0 G1⟩
set_option maxHeartbeats 4000000 in
theorem walk_FnExactReadPage (w : World) (no : Int) (wno : (Lit.int .i64 no).wf = true) (A : Option Addr) (n cp : Nat) (l : List UInt8) (hl : l.length = n) (hc : n ≤ cp) (hm : cp ≤ maxLen) (hr : Rd w A (l.map fun c => Value.int .u8 (c.toNat : Int))) :
    Calls Try.prog 9 #[.int .i64 no, .slice A n cp] w fun e w' => e = .returned (.bool true) ∧ Ext w w' := by
  clear wno
  unfold maxLen at hm
  by_cases hbig : (1048576 : Int) < (n : Int)
  · clear hl hr
    go_enter Try.func9, Try.ntmps9
    go_wp2_with fail
    go_ret
    exact ⟨rfl, Ext.refl _⟩
  have hn : n ≤ 1099511627776 := by omega
  have hS := fun W b (hW : Blk W b 5 (l.map fun c => Value.int .u8 (c.toNat : Int))) => spec_ReadPage no (some ⟨b, 0, none⟩) n n l W hl hn hW.rd
  have hI := fun W b (hW : Blk W b 5 (l.map fun c => Value.int .u8 (c.toNat : Int))) => impl_ReadPage no (some ⟨b, 0, none⟩) n n l W hl hn (Nat.le_refl _) (by unfold maxLen; omega) hW.rd
  have hL := rpL_len no l
  generalize rpL no l = L at hS hI hL
  generalize rpC no l = C at hS hI
  generalize rpK no l = K at hS hI
  have HL := Lib.hid hl
  have HS := Lib.hid hS
  have HI := Lib.hid hI
  have hnL : L.length ≤ 1099511627776 := by omega
  have hcc : (C != C) = false := by simp
  clear hl hS hI
  go_enter Try.func9, Try.ntmps9
  go_wp2_with fail
  refine (toByteS_any A n cp l w HL.out hn hr).mono ?_
  rintro e wa ⟨rfl, Ba, -, Ea⟩
  go_wp2_with fail
  refine (HS.out wa _ Ba).mono ?_
  rintro e w1 ⟨v1, rfl, O1, E1⟩
  obtain ⟨A1, cap1, rfl⟩ := own_slice O1
  have HX1 := Lib.hid (Blk.new w1 45 [.int .i64 K, .slice A1 L.length cap1])
  have HR1 := Lib.hid ((own_rd' O1).2.ext ((Ext.refl w1).alloc (.cells #[.int .i64 K, .slice A1 L.length cap1] 45)))
  have HE1 := Lib.hid ((Ea.trans E1).alloc (.cells #[.int .i64 K, .slice A1 L.length cap1] 45))
  clear O1 Ba Ea E1
  go_wp2_with fail
  generalize w1.alloc (.cells #[.int .i64 K, .slice A1 L.length cap1] 45) = z1 at HX1 HR1 HE1 ⊢
  generalize w1.heap.size = x1 at HX1 ⊢
  have HD1 := Lib.hid (hr.ext HE1.out)
  refine (toByteS_any A n cp l z1 HL.out hn HD1.out).mono ?_
  rintro e wb ⟨rfl, Bb, -, Eb⟩
  have HBb := Lib.hid Bb
  have HEb := Lib.hid Eb
  clear Bb Eb
  go_wp2_with fail
  refine (HI.out wb _ HBb.out).mono ?_
  rintro e w2 ⟨v2, rfl, O2, E2⟩
  obtain ⟨A2, cap2, rfl⟩ := own_slice O2
  have HX2 := Lib.hid (Blk.new w2 45 [.int .i64 K, .slice A2 L.length cap2])
  have HO2 := Lib.hid (own_ext O2 ((Ext.refl w2).alloc (.cells #[.int .i64 K, .slice A2 L.length cap2] 45)))
  have HE2 := Lib.hid ((HEb.out.trans E2).alloc (.cells #[.int .i64 K, .slice A2 L.length cap2] 45))
  have HB2 := Lib.hid ((HBb.out.ext E2).alloc (.cells #[.int .i64 K, .slice A2 L.length cap2] 45))
  have hbz : z1.heap.size ≤ wb.heap.size := HEb.out.le
  have hx2 : wb.heap.size ≤ w2.heap.size := E2.le
  clear O2 E2 HBb HEb
  obtain ⟨p0, p1⟩ := HX2.out.cells2
  obtain ⟨q0, q1⟩ := (HX1.out.ext HE2.out).cells2
  go_wp2_with fail
  clear p0 p1 q0 q1
  generalize w2.alloc (.cells #[.int .i64 K, .slice A2 L.length cap2] 45) = z2 at HX2 HO2 HE2 HB2 ⊢
  generalize w2.heap.size = x2 at HX2 hx2 ⊢
  refine (eqPage_same K A2 A1 L.length cap2 cap1 L z2 rfl hnL (own_rd' HO2.out).2 (HR1.out.ext HE2.out)).mono ?_
  rintro e w3 ⟨rfl, E3⟩
  have HE3 := Lib.hid (HE2.out.trans E3)
  have HO3 := Lib.hid (own_ext HO2.out E3)
  have HX3 := Lib.hid (HX2.out.ext E3)
  have HB3 := Lib.hid (HB2.out.ext E3)
  clear E3 HE2 HO2 HX2 HB2
  go_wp2_with fail
  refine (toByteS_any A n cp l w3 HL.out hn (HD1.out.ext HE3.out)).mono ?_
  rintro e wc ⟨rfl, Bc, -, Ec⟩
  go_wp2_with fail
  refine (eqByteS_same _ _ n n n l wc HL.out hn (HB3.out.ext Ec).rd Bc.rd).mono ?_
  rintro e w4 ⟨rfl, E4, -⟩
  have HE4 := Lib.hid (HE3.out.trans (Ec.trans E4))
  have HO4 := Lib.hid (own_ext HO3.out (Ec.trans E4))
  have HX4 := Lib.hid (HX3.out.ext (Ec.trans E4))
  have B4 := HB3.out.ext (Ec.trans E4)
  have HM := Lib.hid (markByteS_blk z1.heap.size n n 1 _ w4 hn (by omega) (by omega) (by rw [List.length_map, HL.out]; exact Nat.le_refl _) B4)
  have hne := (own_apart HO4.out B4 (by decide)).symm
  have hne2 : x2 ≠ z1.heap.size := by have h1 := HX4.out; have h2 := B4; intro e; rw [e] at h1; unfold Blk at h1 h2; rw [h1] at h2; injection h2 with h2; injection h2 with _ h3; exact absurd h3 (by decide)
  clear E4 Ec Bc HE3 HO3 HX3 HB3
  go_wp2_with fail
  refine HM.out.mono ?_
  rintro e w5 ⟨rfl, B5, G5⟩
  have HO5 := Lib.hid (own_far HO4.out G5 hne)
  have HX5 := Lib.hid (HX4.out.grown G5 hne2)
  have X5 : Ext z1 w5 := HE4.out.grownBy G5 (Nat.le_refl _)
  have HE5 := Lib.hid X5
  clear X5 B5 G5 HM hne hne2 B4 HO4 HX4 HE4
  obtain ⟨p0, p1⟩ := HX5.out.cells2
  obtain ⟨q0, q1⟩ := (HX1.out.ext HE5.out).cells2
  go_wp2_with fail
  refine (eqPage_same K A2 A1 L.length cap2 cap1 L w5 rfl hnL (own_rd' HO5.out).2 (HR1.out.ext HE5.out)).mono ?_
  rintro e w6 ⟨rfl, E6⟩
  clear p0 p1 q0 q1
  have HE6 := Lib.hid (HE5.out.trans E6)
  have HO6 := Lib.hid (own_ext HO5.out E6)
  have HX6 := Lib.hid (HX5.out.ext E6)
  clear E6 HE5 HO5 HX5
  obtain ⟨p0, p1⟩ := HX6.out.cells2
  go_wp2_with fail
  refine (markPage_own wb.heap.size K 1 _ L w6 (by omega) (by omega) (by omega) HO6.out).mono ?_
  rintro e w7 ⟨rfl, O7, G7⟩
  have HE7 := Lib.hid (HE6.out.grown G7 (fun q hq => Nat.le_trans hbz (own_blk HO6.out q hq)))
  have hneX := own_apart HO6.out HX6.out (by decide)
  have HX7 := Lib.hid (show Blk w7 x2 45 [.int .i64 K, .slice A2 L.length cap2] from (G7.block x2 HX6.out.lt hneX).trans HX6.out)
  have HO7 := Lib.hid O7
  clear p0 p1 O7 G7 hneX HE6 HO6 HX6
  obtain ⟨p0, p1⟩ := HX7.out.cells2
  go_wp2_with fail
  refine (heldPage_any A2 L.length cap2 K 1 w7 (by omega) (by omega) (by omega) (own_rd' HO7.out).2).mono ?_
  rintro e w8 ⟨rfl, E8⟩
  have HE8 := Lib.hid (HE7.out.trans E8)
  have HO8 := Lib.hid (own_ext HO7.out E8)
  have HX8 := Lib.hid (HX7.out.ext E8)
  clear p0 p1 E8 HE7 HO7 HX7
  go_wp2_with fail
  refine (toByteS_any A n cp l w8 HL.out hn (HD1.out.ext HE8.out)).mono ?_
  rintro e wd ⟨rfl, Bd, -, Ed⟩
  go_wp2_with fail
  refine (HI.out wd _ Bd).mono ?_
  rintro e w9 ⟨v9, rfl, O9, E9⟩
  obtain ⟨A9, cap9, rfl⟩ := own_slice O9
  have hEa : Ext w8 (w9.alloc (.cells #[.int .i64 K, .slice A9 L.length cap9] 45)) := (Ed.trans E9).alloc _
  have HX9 := Lib.hid (Blk.new w9 45 [.int .i64 K, .slice A9 L.length cap9])
  have HR9 := Lib.hid ((own_rd' O9).2.ext ((Ext.refl w9).alloc (.cells #[.int .i64 K, .slice A9 L.length cap9] 45)))
  have HE9 := Lib.hid (HE8.out.trans hEa)
  have HO9 := Lib.hid (own_ext HO8.out hEa)
  have HXA := Lib.hid (HX8.out.ext hEa)
  clear O9 E9 Ed Bd hEa HE8 HO8 HX8
  obtain ⟨p0, p1⟩ := HX9.out.cells2
  obtain ⟨q0, q1⟩ := (HX1.out.ext HE9.out).cells2
  go_wp2_with fail
  clear p0 p1 q0 q1
  generalize w9.alloc (.cells #[.int .i64 K, .slice A9 L.length cap9] 45) = z9 at HX9 HR9 HE9 HO9 HXA ⊢
  generalize w9.heap.size = x9 at HX9 ⊢
  refine (eqPage_same K A9 A1 L.length cap9 cap1 L z9 rfl hnL HR9.out (HR1.out.ext HE9.out)).mono ?_
  rintro e wx ⟨rfl, Ex⟩
  obtain ⟨p0, p1⟩ := (HXA.out.ext Ex).cells2
  go_wp2_with fail
  refine (heldPage_any A2 L.length cap2 K 1 wx (by omega) (by omega) (by omega) (own_rd' (own_ext HO9.out Ex)).2).mono ?_
  rintro e wy ⟨rfl, Ey⟩
  go_wp2_with fail
  go_ret
  exact ⟨rfl, HE1.out.trans (HE9.out.trans (Ex.trans Ey))⟩
end Go.Proofs.Yteaefjicpefgnaa
