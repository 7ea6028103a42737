/- The walk of FnExactReadRow. -/
import Derived.Test.YthfkfdfcgldbeaaRowR4
import Derived.Test.YthfkfdfcgldbeaaBytes
namespace Go.Proofs.Ythfkfdfcgldbeaa
open Go.RowKit Go.Deep
set_option linter.unusedVariables false
set_option maxRecDepth 100000
set_option maxHeartbeats 2000000 in
theorem eqRow_same (a1 a2 a3 : Int) (x0 : ByteArray) (a4 a5 : Int) (x1 : ByteArray) (w : World) :
    Calls Try.prog 24 #[.agg #[.int .i64 a1, .int .i64 a2, .int .i64 a3, .string x0, .int .i64 a4, .int .i64 a5, .string x1], .agg #[.int .i64 a1, .int .i64 a2, .int .i64 a3, .string x0, .int .i64 a4, .int .i64 a5, .string x1]] w fun e w' => e = .returned (.bool true) ∧ Ext w w' := by
  have hB := (Blk.new w 32 [.int .i64 a1, .int .i64 a2, .int .i64 a3, .string x0, .int .i64 a4, .int .i64 a5, .string x1]).alloc (.cells #[.int .i64 a1, .int .i64 a2, .int .i64 a3, .string x0, .int .i64 a4, .int .i64 a5, .string x1] 32)
  have hB2 := Blk.new (w.alloc (.cells #[.int .i64 a1, .int .i64 a2, .int .i64 a3, .string x0, .int .i64 a4, .int .i64 a5, .string x1] 32)) 32 [.int .i64 a1, .int .i64 a2, .int .i64 a3, .string x0, .int .i64 a4, .int .i64 a5, .string x1]
  rw [World.size_alloc] at hB2
  have HB := Lib.hid hB
  have HB2 := Lib.hid hB2
  have HE := Lib.hid (show Ext w ((w.alloc (.cells #[.int .i64 a1, .int .i64 a2, .int .i64 a3, .string x0, .int .i64 a4, .int .i64 a5, .string x1] 32)).alloc (.cells #[.int .i64 a1, .int .i64 a2, .int .i64 a3, .string x0, .int .i64 a4, .int .i64 a5, .string x1] 32)) from (by repeat (first | exact Ext.refl _ | assumption | refine Ext.alloc ?_ _ | refine Ext.drewN ?_ _ | refine Ext.drew ?_ | refine Ext.set ?_ (by dsimp only; omega) _ | refine Ext.trans ?_ (by assumption))))
  clear hB hB2
  have e1 : (a1 != a1) = false := by simp
  go_enter Try.func24, Try.ntmps24
  go_wp2_with fail
  generalize (w.alloc (.cells #[.int .i64 a1, .int .i64 a2, .int .i64 a3, .string x0, .int .i64 a4, .int .i64 a5, .string x1] 32)).alloc (.cells #[.int .i64 a1, .int .i64 a2, .int .i64 a3, .string x0, .int .i64 a4, .int .i64 a5, .string x1] 32) = w2 at HB HB2 HE ⊢
  refine (eqValue_same _ _ _ _).mono ?_
  rintro e w3 ⟨rfl, E3⟩
  obtain ⟨p0, p1, p2, p3, p4, p5, p6⟩ := (HB.out.ext E3).cells7
  obtain ⟨q0, q1, q2, q3, q4, q5, q6⟩ := (HB2.out.ext E3).cells7
  go_wp2_with fail
  refine (eqValue_same _ _ _ _).mono ?_
  rintro e w4 ⟨rfl, E4⟩
  go_wp2_with fail
  go_ret
  exact ⟨rfl, HE.out.trans (E3.trans E4)⟩
set_option maxHeartbeats 4000000 in
theorem walk_FnExactReadRow (w : World) (A : Option Addr) (n cp : Nat) (l : List UInt8) (hl : l.length = n) (hc : n ≤ cp) (hm : cp ≤ maxLen) (hr : Rd w A (l.map fun c => Value.int .u8 (c.toNat : Int))) :
    Calls Try.prog 4 #[.slice A n cp] w fun e w' => e = .returned (.bool true) ∧ Ext w w' := by
  unfold maxLen at hm
  by_cases hbig : (1048576 : Int) < (n : Int)
  · clear hl hr
    go_enter Try.func4, Try.ntmps4
    go_wp2_with fail
    go_ret
    exact ⟨rfl, Ext.refl _⟩
  have hn : n ≤ 1099511627776 := by omega
  have hS := fun W b (hW : Blk W b 5 (l.map fun c => Value.int .u8 (c.toNat : Int))) => spec_ReadRow (some ⟨b, 0, none⟩) n n l W hl hW.rd
  have hI := fun W b (hW : Blk W b 5 (l.map fun c => Value.int .u8 (c.toNat : Int))) => impl_ReadRow (some ⟨b, 0, none⟩) n n l W hl (Nat.le_refl _) (by unfold maxLen; omega) hW.rd
  unfold RwPost at hS hI
  generalize rwV l = V at hS hI
  obtain ⟨T, ⟨a1, ⟨a2, a3, x0⟩, ⟨a4, a5, x1⟩⟩, C⟩ := V
  unfold CRow.ag at hS hI
  dsimp only at hS hI
  have HL := Lib.hid hl
  have HS := Lib.hid hS
  have HI := Lib.hid hI
  have hcc : (C != C) = false := by simp
  have htt : (T != T) = false := by simp
  clear hl hS hI
  go_enter Try.func4, Try.ntmps4
  go_wp2_with fail
  refine (toByteS_any A n cp l w HL.out hn hr).mono ?_
  rintro e wa ⟨rfl, Ba, -, Ea⟩
  go_wp2_with fail
  refine (HS.out wa _ Ba).mono ?_
  rintro e w1 ⟨rfl, E1⟩
  have HX1 := Lib.hid (Blk.new w1 32 [.int .i64 a1, .int .i64 a2, .int .i64 a3, .string x0, .int .i64 a4, .int .i64 a5, .string x1])
  have HE1 := Lib.hid ((Ea.trans E1).alloc (.cells #[.int .i64 a1, .int .i64 a2, .int .i64 a3, .string x0, .int .i64 a4, .int .i64 a5, .string x1] 32))
  clear Ba Ea E1
  go_wp2_with fail
  generalize w1.alloc (.cells #[.int .i64 a1, .int .i64 a2, .int .i64 a3, .string x0, .int .i64 a4, .int .i64 a5, .string x1] 32) = z1 at HX1 HE1 ⊢
  generalize w1.heap.size = y1 at HX1 ⊢
  refine (toByteS_any A n cp l z1 HL.out hn (hr.ext HE1.out)).mono ?_
  rintro e wb ⟨rfl, Bb, -, Eb⟩
  have HBb := Lib.hid Bb
  have HEb := Lib.hid Eb
  clear Bb Eb
  go_wp2_with fail
  refine (HI.out wb _ HBb.out).mono ?_
  rintro e w2 ⟨rfl, E2⟩
  have HX2 := Lib.hid (Blk.new w2 32 [.int .i64 a1, .int .i64 a2, .int .i64 a3, .string x0, .int .i64 a4, .int .i64 a5, .string x1])
  have HE2 := Lib.hid ((HEb.out.trans E2).alloc (.cells #[.int .i64 a1, .int .i64 a2, .int .i64 a3, .string x0, .int .i64 a4, .int .i64 a5, .string x1] 32))
  have HB2 := Lib.hid ((HBb.out.ext E2).alloc (.cells #[.int .i64 a1, .int .i64 a2, .int .i64 a3, .string x0, .int .i64 a4, .int .i64 a5, .string x1] 32))
  clear E2 HBb HEb
  have HX1b := Lib.hid (HX1.out.ext HE2.out)
  obtain ⟨p0, p1, p2, p3, p4, p5, p6⟩ := HX2.out.cells7
  obtain ⟨q0, q1, q2, q3, q4, q5, q6⟩ := HX1b.out.cells7
  go_wp2_with fail
  clear p0 p1 p2 p3 p4 p5 p6 q0 q1 q2 q3 q4 q5 q6
  generalize w2.alloc (.cells #[.int .i64 a1, .int .i64 a2, .int .i64 a3, .string x0, .int .i64 a4, .int .i64 a5, .string x1] 32) = z2 at HX2 HE2 HB2 HX1b ⊢
  refine (eqRow_same a1 a2 a3 x0 a4 a5 x1 z2).mono ?_
  rintro e w3 ⟨rfl, E3⟩
  have HE3 := Lib.hid (HE2.out.trans E3)
  have HB3 := Lib.hid (HB2.out.ext E3)
  clear E3 HE2 HB2
  go_wp2_with fail
  refine (toByteS_any A n cp l w3 HL.out hn (hr.ext (HE1.out.trans HE3.out))).mono ?_
  rintro e wc ⟨rfl, Bc, -, Ec⟩
  go_wp2_with fail
  refine (eqByteS_same _ _ n n n l wc HL.out hn (HB3.out.ext Ec).rd Bc.rd).mono ?_
  rintro e w4 ⟨rfl, E4, -⟩
  go_wp2_with fail
  go_ret
  exact ⟨rfl, HE1.out.trans (HE3.out.trans (Ec.trans E4))⟩
end Go.Proofs.Ythfkfdfcgldbeaa
