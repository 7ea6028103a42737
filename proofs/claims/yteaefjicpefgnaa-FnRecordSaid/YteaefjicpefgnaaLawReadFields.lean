/- The walk of FnExactReadFields. -/
import Derived.Test.YteaefjicpefgnaaReadFields2
import Derived.Test.YteaefjicpefgnaaMarkS
import Derived.Test.YteaefjicpefgnaaBytes
namespace Go.Proofs.Yteaefjicpefgnaa
open Go.RowKit Go.Deep
set_option linter.unusedVariables false
set_option maxRecDepth 100000
theorem rdF_len (k : Nat) : ∀ (l : List UInt8) (o : List ByteArray), rdF k l = some o → o.length = k := by
  intro l o h
  have h1 := fld_some k l [] o h
  have h2 := fld_len k l false []
  rw [h1] at h2
  simpa using h2
theorem rfL_len (l : List UInt8) : (rfL l).length ≤ 100 := by
  unfold rfL; split
  · simp
  · rcases h : rfO l with _ | o
    · simp
    · simpa using (fld_all_some h).2.1
set_option maxHeartbeats 2000000 in
theorem walk_FnExactReadFields (w : World) (A : Option Addr) (n cp : Nat) (l : List UInt8) (hl : l.length = n) (hc : n ≤ cp) (hm : cp ≤ maxLen) (hr : Rd w A (l.map fun c => Value.int .u8 (c.toNat : Int))) :
    Calls Try.prog 5 #[.slice A n cp] w fun e w' => e = .returned (.bool true) ∧ Ext w w' := by
  unfold maxLen at hm
  by_cases hbig : (1048576 : Int) < (n : Int)
  · clear hl hr
    go_enter Try.func5, Try.ntmps5
    go_wp2_with fail
    go_ret
    exact ⟨rfl, Ext.refl _⟩
  have hn : n ≤ 1099511627776 := by omega
  have hS := fun W b (hW : Blk W b 5 (l.map fun c => Value.int .u8 (c.toNat : Int))) => spec_ReadFields (some ⟨b, 0, none⟩) n n l W hl hn hW.rd
  have hI := fun W b (hW : Blk W b 5 (l.map fun c => Value.int .u8 (c.toNat : Int))) => impl_ReadFields (some ⟨b, 0, none⟩) n n l W hl hn (Nat.le_refl _) (by unfold maxLen; omega) hW.rd
  have hL := rfL_len l
  generalize rfL l = L at hS hI hL
  generalize rfC l = C at hS hI
  have HL := Lib.hid hl
  have HS := Lib.hid hS
  have HI := Lib.hid hI
  have hnL : L.length ≤ 1099511627776 := by omega
  have hcc : (C != C) = false := by simp
  clear hl hS hI
  go_enter Try.func5, Try.ntmps5
  go_wp2_with fail
  refine (toByteS_any A n cp l w HL.out hn hr).mono ?_
  rintro e wa ⟨rfl, Ba, -, Ea⟩
  go_wp2_with fail
  refine (HS.out wa _ Ba).mono ?_
  rintro e w1 ⟨v1, rfl, O1, E1⟩
  have HS1 := Lib.hid (StS.own O1)
  have R1 := (hr.ext Ea).ext E1
  clear O1 Ba
  go_wp2_with fail
  refine (toByteS_any A n cp l w1 HL.out hn R1).mono ?_
  rintro e wb ⟨rfl, Bb, -, Eb⟩
  go_wp2_with fail
  refine (HI.out wb _ Bb).mono ?_
  rintro e w2 ⟨v2, rfl, O2, E2⟩
  have HO2 := Lib.hid O2
  clear O2
  go_wp2_with fail
  refine (eqStringS_st (StS.own HO2.out) (HS1.out.ext (Eb.trans E2)) hnL).mono ?_
  rintro e w3 ⟨rfl, E3⟩
  have R3 := ((R1.ext Eb).ext E2).ext E3
  go_wp2_with fail
  refine (toByteS_any A n cp l w3 HL.out hn R3).mono ?_
  rintro e wc ⟨rfl, Bc, -, Ec⟩
  have B3 := Bb.ext (E2.trans (E3.trans Ec))
  go_wp2_with fail
  refine (eqByteS_same _ _ n n n l wc HL.out hn B3.rd Bc.rd).mono ?_
  rintro e w4 ⟨rfl, E4, -⟩
  have B4 := B3.ext E4
  clear B3 Bc Bb R3
  have HM := Lib.hid (markByteS_blk w1.heap.size n n 1 _ w4 hn (by omega) (by omega) (by rw [List.length_map, HL.out]; exact Nat.le_refl _) B4)
  go_wp2_with fail
  refine HM.out.mono ?_
  rintro e w5 ⟨rfl, B5, G5⟩
  have O4 := own_ext HO2.out (E3.trans (Ec.trans E4))
  have X5 : Ext w1 w5 := (Eb.trans (E2.trans (E3.trans (Ec.trans E4)))).grownBy G5 (Nat.le_refl _)
  have HO5 := Lib.hid (own_far O4 G5 (own_apart O4 B4 (by decide)).symm)
  clear O4 HO2 B4 B5 G5
  go_wp2_with fail
  refine (eqStringS_st (StS.own HO5.out) (HS1.out.ext X5) hnL).mono ?_
  rintro e w6 ⟨rfl, E6⟩
  go_wp2_with fail
  refine (markStringS_own wb.heap.size v2 1 L _ (by omega) (by omega) (by omega) (own_ext HO5.out E6)).mono ?_
  rintro e w7 ⟨rfl, O7, G7⟩
  have X7 : Ext w1 w7 := (X5.trans E6).grown G7 (fun k hk => Nat.le_trans Eb.le (own_blk HO5.out k hk))
  have HO7 := Lib.hid O7
  clear O7 G7
  obtain ⟨A2, cap2, rfl⟩ := own_slice HO5.out
  go_wp2_with fail
  refine (heldStringS_any A2 L.length cap2 1 w7 (by omega) (by omega) (by omega) (own_rd' HO7.out).2).mono ?_
  rintro e w8 ⟨rfl, E8⟩
  have X8 := X7.trans E8
  have HO8 := Lib.hid (own_ext HO7.out E8)
  clear HO7
  go_wp2_with fail
  refine (toByteS_any A n cp l w8 HL.out hn (R1.ext X8)).mono ?_
  rintro e wd ⟨rfl, Bd, -, Ed⟩
  go_wp2_with fail
  refine (HI.out wd _ Bd).mono ?_
  rintro e w9 ⟨v9, rfl, O9, E9⟩
  have HO9 := Lib.hid O9
  clear O9 Bd
  go_wp2_with fail
  refine (eqStringS_st (StS.own HO9.out) (HS1.out.ext (X8.trans (Ed.trans E9))) hnL).mono ?_
  rintro e wx ⟨rfl, Ex⟩
  go_wp2_with fail
  refine (heldStringS_any A2 L.length cap2 1 wx (by omega) (by omega) (by omega) (own_rd' (own_ext HO8.out (Ed.trans (E9.trans Ex)))).2).mono ?_
  rintro e wy ⟨rfl, Ey⟩
  go_wp2_with fail
  go_ret
  exact ⟨rfl, Ea.trans (E1.trans (X8.trans (Ed.trans (E9.trans (Ex.trans Ey)))))⟩
end Go.Proofs.Yteaefjicpefgnaa
