/- The walk of FnExactReadRecord (printed by gen_lawreadrec.py). -/
import Derived.Test.YteaefjicpefgnaaReadRec2
import Derived.Test.YteaefjicpefgnaaBytes
namespace Go.Proofs.Yteaefjicpefgnaa
open Go.RowKit Go.Deep
set_option linter.unusedVariables false
set_option maxRecDepth 100000
set_option maxHeartbeats 2000000 in
theorem eqLogRecord_same (a1 a2 a3 a4 a5 a6 a7 a8 : Int) (x0 x1 : ByteArray) (w : World) :
    Calls Try.prog 51 #[.agg #[.int .i64 a1, .int .i64 a2, .int .i64 a3, .int .i64 a4, .int .i64 a5, .int .i64 a6, .int .i64 a7, .int .i64 a8, .string x0, .string x1], .agg #[.int .i64 a1, .int .i64 a2, .int .i64 a3, .int .i64 a4, .int .i64 a5, .int .i64 a6, .int .i64 a7, .int .i64 a8, .string x0, .string x1]] w fun e w' => e = .returned (.bool true) ∧ Ext w w' := by
  have e1 : (a1 != a1) = false := by simp
  have e2 : (a2 != a2) = false := by simp
  have e3 : (a3 != a3) = false := by simp
  have e4 : (a4 != a4) = false := by simp
  have e5 : (a5 != a5) = false := by simp
  have e6 : (a6 != a6) = false := by simp
  have e7 : (a7 != a7) = false := by simp
  have e8 : (a8 != a8) = false := by simp
  go_enter Try.func51, Try.ntmps51
  go_wp2_with fail
  go_ret
  exact ⟨rfl, (by repeat (first | exact Ext.refl _ | assumption | refine Ext.alloc ?_ _ | refine Ext.drewN ?_ _ | refine Ext.drew ?_ | refine Ext.set ?_ (by dsimp only; omega) _ | refine Ext.trans ?_ (by assumption)))⟩
set_option maxHeartbeats 4000000 in
theorem walk_FnExactReadRecord (w : World) (A : Option Addr) (n cp : Nat) (l : List UInt8) (hl : l.length = n) (hc : n ≤ cp) (hm : cp ≤ maxLen) (hr : Rd w A (l.map fun c => Value.int .u8 (c.toNat : Int))) :
    Calls Try.prog 12 #[.slice A n cp] w fun e w' => e = .returned (.bool true) ∧ Ext w w' := by
  unfold maxLen at hm
  by_cases hbig : (1048576 : Int) < (n : Int)
  · clear hl hr
    go_enter Try.func12, Try.ntmps12
    go_wp2_with fail
    go_ret
    exact ⟨rfl, Ext.refl _⟩
  have hn : n ≤ 1099511627776 := by omega
  have hS := fun W b (hW : Blk W b 5 (l.map fun c => Value.int .u8 (c.toNat : Int))) => spec_ReadRecord (some ⟨b, 0, none⟩) n n l W hl hn hW.rd
  have hI := fun W b (hW : Blk W b 5 (l.map fun c => Value.int .u8 (c.toNat : Int))) => impl_ReadRecord (some ⟨b, 0, none⟩) n n l W hl hn (Nat.le_refl _) (by unfold maxLen; omega) hW.rd
  unfold RrPost at hS hI
  generalize rrN l 1 = a1 at hS hI
  generalize rrN l 2 = a2 at hS hI
  generalize rrN l 3 = a3 at hS hI
  generalize rrN l 4 = a4 at hS hI
  generalize rrN l 5 = a5 at hS hI
  generalize rrN l 6 = a6 at hS hI
  generalize rrN l 7 = a7 at hS hI
  generalize rrN l 8 = a8 at hS hI
  generalize rrS l 0 = x0 at hS hI
  generalize rrS l 1 = x1 at hS hI
  generalize rrC l = C at hS hI
  have HL := Lib.hid hl
  have HS := Lib.hid hS
  have HI := Lib.hid hI
  have hcc : (C != C) = false := by simp
  clear hl hS hI
  go_enter Try.func12, Try.ntmps12
  go_wp2_with fail
  refine (toByteS_any A n cp l w HL.out hn hr).mono ?_
  rintro e wa ⟨rfl, Ba, -, Ea⟩
  go_wp2_with fail
  refine (HS.out wa _ Ba).mono ?_
  rintro e w1 ⟨rfl, E1⟩
  have HX1 := Lib.hid (Blk.new w1 57 [.int .i64 a1, .int .i64 a2, .int .i64 a3, .int .i64 a4, .int .i64 a5, .int .i64 a6, .int .i64 a7, .int .i64 a8, .string x0, .string x1])
  have HE1 := Lib.hid ((Ea.trans E1).alloc (.cells #[.int .i64 a1, .int .i64 a2, .int .i64 a3, .int .i64 a4, .int .i64 a5, .int .i64 a6, .int .i64 a7, .int .i64 a8, .string x0, .string x1] 57))
  clear Ba Ea E1
  go_wp2_with fail
  generalize w1.alloc (.cells #[.int .i64 a1, .int .i64 a2, .int .i64 a3, .int .i64 a4, .int .i64 a5, .int .i64 a6, .int .i64 a7, .int .i64 a8, .string x0, .string x1] 57) = z1 at HX1 HE1 ⊢
  generalize w1.heap.size = y1 at HX1 ⊢
  refine (toByteS_any A n cp l z1 HL.out hn (hr.ext HE1.out)).mono ?_
  rintro e wb ⟨rfl, Bb, -, Eb⟩
  have HBb := Lib.hid Bb
  have HEb := Lib.hid Eb
  clear Bb Eb
  go_wp2_with fail
  refine (HI.out wb _ HBb.out).mono ?_
  rintro e w2 ⟨rfl, E2⟩
  have HX2 := Lib.hid (Blk.new w2 57 [.int .i64 a1, .int .i64 a2, .int .i64 a3, .int .i64 a4, .int .i64 a5, .int .i64 a6, .int .i64 a7, .int .i64 a8, .string x0, .string x1])
  have HE2 := Lib.hid ((HEb.out.trans E2).alloc (.cells #[.int .i64 a1, .int .i64 a2, .int .i64 a3, .int .i64 a4, .int .i64 a5, .int .i64 a6, .int .i64 a7, .int .i64 a8, .string x0, .string x1] 57))
  have HB2 := Lib.hid ((HBb.out.ext E2).alloc (.cells #[.int .i64 a1, .int .i64 a2, .int .i64 a3, .int .i64 a4, .int .i64 a5, .int .i64 a6, .int .i64 a7, .int .i64 a8, .string x0, .string x1] 57))
  clear E2 HBb HEb
  have HX1b := Lib.hid (HX1.out.ext HE2.out)
  have p0 : (w2.alloc (.cells #[.int .i64 a1, .int .i64 a2, .int .i64 a3, .int .i64 a4, .int .i64 a5, .int .i64 a6, .int .i64 a7, .int .i64 a8, .string x0, .string x1] 57)).cell? ⟨w2.heap.size, 0, none⟩ = some (.int .i64 a1) := HX2.out.cell (i := 0) (by simp)
  have p1 : (w2.alloc (.cells #[.int .i64 a1, .int .i64 a2, .int .i64 a3, .int .i64 a4, .int .i64 a5, .int .i64 a6, .int .i64 a7, .int .i64 a8, .string x0, .string x1] 57)).cell? ⟨w2.heap.size, 1, none⟩ = some (.int .i64 a2) := HX2.out.cell (i := 1) (by simp)
  have p2 : (w2.alloc (.cells #[.int .i64 a1, .int .i64 a2, .int .i64 a3, .int .i64 a4, .int .i64 a5, .int .i64 a6, .int .i64 a7, .int .i64 a8, .string x0, .string x1] 57)).cell? ⟨w2.heap.size, 2, none⟩ = some (.int .i64 a3) := HX2.out.cell (i := 2) (by simp)
  have p3 : (w2.alloc (.cells #[.int .i64 a1, .int .i64 a2, .int .i64 a3, .int .i64 a4, .int .i64 a5, .int .i64 a6, .int .i64 a7, .int .i64 a8, .string x0, .string x1] 57)).cell? ⟨w2.heap.size, 3, none⟩ = some (.int .i64 a4) := HX2.out.cell (i := 3) (by simp)
  have p4 : (w2.alloc (.cells #[.int .i64 a1, .int .i64 a2, .int .i64 a3, .int .i64 a4, .int .i64 a5, .int .i64 a6, .int .i64 a7, .int .i64 a8, .string x0, .string x1] 57)).cell? ⟨w2.heap.size, 4, none⟩ = some (.int .i64 a5) := HX2.out.cell (i := 4) (by simp)
  have p5 : (w2.alloc (.cells #[.int .i64 a1, .int .i64 a2, .int .i64 a3, .int .i64 a4, .int .i64 a5, .int .i64 a6, .int .i64 a7, .int .i64 a8, .string x0, .string x1] 57)).cell? ⟨w2.heap.size, 5, none⟩ = some (.int .i64 a6) := HX2.out.cell (i := 5) (by simp)
  have p6 : (w2.alloc (.cells #[.int .i64 a1, .int .i64 a2, .int .i64 a3, .int .i64 a4, .int .i64 a5, .int .i64 a6, .int .i64 a7, .int .i64 a8, .string x0, .string x1] 57)).cell? ⟨w2.heap.size, 6, none⟩ = some (.int .i64 a7) := HX2.out.cell (i := 6) (by simp)
  have p7 : (w2.alloc (.cells #[.int .i64 a1, .int .i64 a2, .int .i64 a3, .int .i64 a4, .int .i64 a5, .int .i64 a6, .int .i64 a7, .int .i64 a8, .string x0, .string x1] 57)).cell? ⟨w2.heap.size, 7, none⟩ = some (.int .i64 a8) := HX2.out.cell (i := 7) (by simp)
  have p8 : (w2.alloc (.cells #[.int .i64 a1, .int .i64 a2, .int .i64 a3, .int .i64 a4, .int .i64 a5, .int .i64 a6, .int .i64 a7, .int .i64 a8, .string x0, .string x1] 57)).cell? ⟨w2.heap.size, 8, none⟩ = some (.string x0) := HX2.out.cell (i := 8) (by simp)
  have p9 : (w2.alloc (.cells #[.int .i64 a1, .int .i64 a2, .int .i64 a3, .int .i64 a4, .int .i64 a5, .int .i64 a6, .int .i64 a7, .int .i64 a8, .string x0, .string x1] 57)).cell? ⟨w2.heap.size, 9, none⟩ = some (.string x1) := HX2.out.cell (i := 9) (by simp)
  have q0 : (w2.alloc (.cells #[.int .i64 a1, .int .i64 a2, .int .i64 a3, .int .i64 a4, .int .i64 a5, .int .i64 a6, .int .i64 a7, .int .i64 a8, .string x0, .string x1] 57)).cell? ⟨y1, 0, none⟩ = some (.int .i64 a1) := HX1b.out.cell (i := 0) (by simp)
  have q1 : (w2.alloc (.cells #[.int .i64 a1, .int .i64 a2, .int .i64 a3, .int .i64 a4, .int .i64 a5, .int .i64 a6, .int .i64 a7, .int .i64 a8, .string x0, .string x1] 57)).cell? ⟨y1, 1, none⟩ = some (.int .i64 a2) := HX1b.out.cell (i := 1) (by simp)
  have q2 : (w2.alloc (.cells #[.int .i64 a1, .int .i64 a2, .int .i64 a3, .int .i64 a4, .int .i64 a5, .int .i64 a6, .int .i64 a7, .int .i64 a8, .string x0, .string x1] 57)).cell? ⟨y1, 2, none⟩ = some (.int .i64 a3) := HX1b.out.cell (i := 2) (by simp)
  have q3 : (w2.alloc (.cells #[.int .i64 a1, .int .i64 a2, .int .i64 a3, .int .i64 a4, .int .i64 a5, .int .i64 a6, .int .i64 a7, .int .i64 a8, .string x0, .string x1] 57)).cell? ⟨y1, 3, none⟩ = some (.int .i64 a4) := HX1b.out.cell (i := 3) (by simp)
  have q4 : (w2.alloc (.cells #[.int .i64 a1, .int .i64 a2, .int .i64 a3, .int .i64 a4, .int .i64 a5, .int .i64 a6, .int .i64 a7, .int .i64 a8, .string x0, .string x1] 57)).cell? ⟨y1, 4, none⟩ = some (.int .i64 a5) := HX1b.out.cell (i := 4) (by simp)
  have q5 : (w2.alloc (.cells #[.int .i64 a1, .int .i64 a2, .int .i64 a3, .int .i64 a4, .int .i64 a5, .int .i64 a6, .int .i64 a7, .int .i64 a8, .string x0, .string x1] 57)).cell? ⟨y1, 5, none⟩ = some (.int .i64 a6) := HX1b.out.cell (i := 5) (by simp)
  have q6 : (w2.alloc (.cells #[.int .i64 a1, .int .i64 a2, .int .i64 a3, .int .i64 a4, .int .i64 a5, .int .i64 a6, .int .i64 a7, .int .i64 a8, .string x0, .string x1] 57)).cell? ⟨y1, 6, none⟩ = some (.int .i64 a7) := HX1b.out.cell (i := 6) (by simp)
  have q7 : (w2.alloc (.cells #[.int .i64 a1, .int .i64 a2, .int .i64 a3, .int .i64 a4, .int .i64 a5, .int .i64 a6, .int .i64 a7, .int .i64 a8, .string x0, .string x1] 57)).cell? ⟨y1, 7, none⟩ = some (.int .i64 a8) := HX1b.out.cell (i := 7) (by simp)
  have q8 : (w2.alloc (.cells #[.int .i64 a1, .int .i64 a2, .int .i64 a3, .int .i64 a4, .int .i64 a5, .int .i64 a6, .int .i64 a7, .int .i64 a8, .string x0, .string x1] 57)).cell? ⟨y1, 8, none⟩ = some (.string x0) := HX1b.out.cell (i := 8) (by simp)
  have q9 : (w2.alloc (.cells #[.int .i64 a1, .int .i64 a2, .int .i64 a3, .int .i64 a4, .int .i64 a5, .int .i64 a6, .int .i64 a7, .int .i64 a8, .string x0, .string x1] 57)).cell? ⟨y1, 9, none⟩ = some (.string x1) := HX1b.out.cell (i := 9) (by simp)
  go_wp2_with fail
  clear p0 p1 p2 p3 p4 p5 p6 p7 p8 p9 q0 q1 q2 q3 q4 q5 q6 q7 q8 q9
  generalize w2.alloc (.cells #[.int .i64 a1, .int .i64 a2, .int .i64 a3, .int .i64 a4, .int .i64 a5, .int .i64 a6, .int .i64 a7, .int .i64 a8, .string x0, .string x1] 57) = z2 at HX2 HE2 HB2 HX1b ⊢
  refine (eqLogRecord_same a1 a2 a3 a4 a5 a6 a7 a8 x0 x1 z2).mono ?_
  rintro e w3 ⟨rfl, E3⟩
  have HE3 := Lib.hid (HE2.out.trans E3)
  have HB3 := Lib.hid (HB2.out.ext E3)
  clear E3 HE2 HB2
  go_wp2_with fail
  refine (toByteS_any A n cp l w3 HL.out hn (hr.ext (HE1.out.trans HE3.out))).mono ?_
  rintro e wc ⟨rfl, Bc, -, Ec⟩
  go_wp2_with fail
  refine (eqByteS_same _ _ n n n l wc HL.out hn (HB3.out.ext Ec).rd Bc.rd).mono ?_
  rintro e w4 ⟨rfl, E4, -⟩
  go_wp2_with fail
  go_ret
  exact ⟨rfl, HE1.out.trans (HE3.out.trans (Ec.trans E4))⟩
end Go.Proofs.Yteaefjicpefgnaa
