/- The walk of FnExactReadHeader. -/
import Derived.Test.YteaefjicpefgnaaReadHeader
import Derived.Test.YteaefjicpefgnaaBytes
namespace Go.Proofs.Yteaefjicpefgnaa
open Go.RowKit Go.Deep
set_option linter.unusedVariables false
set_option maxRecDepth 100000
set_option maxHeartbeats 1000000 in
theorem walk_FnExactReadHeader (w : World) (A : Option Addr) (n cp : Nat) (l : List UInt8) (hl : l.length = n) (hc : n ≤ cp) (hm : cp ≤ maxLen) (hr : Rd w A (l.map fun c => Value.int .u8 (c.toNat : Int))) :
    Calls Try.prog 4 #[.slice A n cp] w fun e w' => e = .returned (.bool true) ∧ Ext w w' := by
  unfold maxLen at hm
  by_cases hbig : (1048576 : Int) < (n : Int)
  · clear hl hr
    go_enter Try.func4, Try.ntmps4
    go_wp2_with fail
    go_ret
    exact ⟨rfl, Ext.refl _⟩
  have hn : n ≤ 1099511627776 := by omega
  have hS := fun W b (hW : Blk W b 5 (l.map fun c => Value.int .u8 (c.toNat : Int))) => spec_ReadHeader (some ⟨b, 0, none⟩) n n l W hl hn hW.rd
  have hI := fun W b (hW : Blk W b 5 (l.map fun c => Value.int .u8 (c.toNat : Int))) => impl_ReadHeader (some ⟨b, 0, none⟩) n n l W hl hn (Nat.le_refl _) (by unfold maxLen; omega) hW.rd
  generalize rhV l = V at hS hI
  generalize rhC l = C at hS hI
  have HL := Lib.hid hl
  have HS := Lib.hid hS
  have HI := Lib.hid hI
  have hvv : (V != V) = false := by simp
  have hcc : (C != C) = false := by simp
  clear hl hS hI
  go_enter Try.func4, Try.ntmps4
  go_wp2_with fail
  refine (toByteS_any A n cp l w HL.out hn hr).mono ?_
  rintro e w1 ⟨rfl, B1, -, E1⟩
  go_wp2_with fail
  refine (HS.out _ _ B1).mono ?_
  rintro e w2 ⟨rfl, E2⟩
  have R2 := (hr.ext E1).ext E2
  go_wp2_with fail
  refine (toByteS_any A n cp l w2 HL.out hn R2).mono ?_
  rintro e w3 ⟨rfl, B3, -, E3⟩
  go_wp2_with fail
  refine (HI.out _ _ B3).mono ?_
  rintro e w4 ⟨rfl, E4⟩
  have R4 := (R2.ext E3).ext E4
  have B4 := B3.ext E4
  go_wp2_with fail
  refine (toByteS_any A n cp l w4 HL.out hn R4).mono ?_
  rintro e w5 ⟨rfl, B5, -, E5⟩
  have B45 := B4.ext E5
  go_wp2_with fail
  refine (eqByteS_same _ _ n n n l w5 HL.out hn B45.rd B5.rd).mono ?_
  rintro e w6 ⟨rfl, E6, -⟩
  go_wp2_with fail
  go_ret
  exact ⟨rfl, E1.trans (E2.trans (E3.trans (E4.trans (E5.trans E6))))⟩
end Go.Proofs.Yteaefjicpefgnaa
