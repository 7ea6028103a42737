/- The walk of FnExactFieldsBytes. -/
import Derived.Test.YteaefjicpefgnaaFieldsB
import Derived.Test.YteaefjicpefgnaaMarkB
import Derived.Test.YteaefjicpefgnaaMark
import Derived.Test.YteaefjicpefgnaaTexts
namespace Go.Proofs.Yteaefjicpefgnaa
open Go.RowKit Go.Deep
set_option linter.unusedVariables false
set_option maxRecDepth 100000
theorem Blk.stay {w : World} {b : Nat} {t : TypeId} {cs : List Value} (h : Blk w b t cs) : Stay w w (some ⟨b, 0, none⟩) t := fun a ha => by
  injection ha with ha
  subst ha
  exact ⟨rfl, _, _, h⟩
set_option maxHeartbeats 8000000 in
theorem walk_FnExactFieldsBytes (w : World) (A : Option Addr) (n cp : Nat) (l : List ByteArray) (hl : l.length = n) (hc : n ≤ cp) (hm : cp ≤ maxLen) (hx : ∀ s ∈ l, s.size ≤ maxLen) (hr : Rd w A (l.map fun c => Value.string c)) :
    Calls Try.prog 6 #[.slice A n cp] w fun e w' => e = .returned (.bool true) ∧ Ext w w' := by
  have HLL := Lib.hid hl
  have HX := Lib.hid hx
  clear hl hx
  unfold maxLen at hm
  have hI := fun W b (hW : Blk W b 9 (l.map fun c => Value.string c)) (hn : n ≤ 1099511627776) => impl_FieldsBytes (some ⟨b, 0, none⟩) n n l W HLL.out hn HX.out hW.rd hW.stay
  have hS := fun W b (hW : Blk W b 9 (l.map fun c => Value.string c)) (hn : n ≤ 1099511627776) => spec_FieldsBytes (some ⟨b, 0, none⟩) n n l W HLL.out hn HX.out hW.rd
  have hll := fbL_le l
  generalize fbL l = L at hI hS hll
  generalize fbC l = C at hI hS
  have HI := Lib.hid hI
  have HS := Lib.hid hS
  clear hI hS
  have hnL : L.length ≤ 1099511627776 := by omega
  have hcc : (C != C) = false := by simp
  go_enter Try.func6, Try.ntmps6
  go_wp2_with fail
  refine (szStringS_any A n cp l 1048576 w HLL.out (by omega) (by omega) (by omega) HX.out hr).mono ?_
  rintro e w0 ⟨v, rfl, hv1, hv2, hG, E0⟩
  have HG := Lib.hid hG
  clear hG
  by_cases hv : v < 0
  · go_wp2_with fail
    go_ret
    exact ⟨rfl, E0⟩
  have hn2 : n ≤ 1048576 := by have := (HG.out (by omega)).1; rw [HLL.out] at this; omega
  have hn : n ≤ 1099511627776 := by omega
  have R0 := hr.ext E0
  go_wp2_with fail
  refine (toStringS_any A n cp l w0 HLL.out hn R0).mono ?_
  rintro e wa ⟨rfl, Ba, -, Ea⟩
  go_wp2_with fail
  refine (HS.out wa _ Ba hn).mono ?_
  rintro e w1 ⟨v1, rfl, S1, E1⟩
  have HS1 := Lib.hid S1
  clear S1
  have R1 := (R0.ext Ea).ext E1
  go_wp2_with fail
  refine (toStringS_any A n cp l w1 HLL.out hn R1).mono ?_
  rintro e wb ⟨rfl, Bb, -, Eb⟩
  go_wp2_with fail
  refine (HI.out wb _ Bb hn).mono ?_
  rintro e w2 ⟨v2, rfl, O2, E2⟩
  have HO2 := Lib.hid O2
  clear O2
  go_wp2_with fail
  refine (eqByteS_sl (Sl.own HO2.out) (HS1.out.ext (Eb.trans E2)) hnL).mono ?_
  rintro e w3 ⟨rfl, E3, -⟩
  have R3 := ((R1.ext Eb).ext E2).ext E3
  go_wp2_with fail
  refine (toStringS_any A n cp l w3 HLL.out hn R3).mono ?_
  rintro e wc ⟨rfl, Bc, -, Ec⟩
  have B3 : Blk wc w1.heap.size 9 (l.map fun c => Value.string c) := Bb.ext (E2.trans (E3.trans Ec))
  go_wp2_with fail
  refine (eqStringS_same _ _ n n n l wc HLL.out hn B3.rd Bc.rd).mono ?_
  rintro e w4 ⟨rfl, E4, -⟩
  have B4 := B3.ext E4
  go_wp2_with fail
  refine (markStringS_any w1.heap.size n n 1 l [] w4 (by omega) (by omega) (by omega) HLL.out (by rw [List.append_nil]; exact B4)).mono ?_
  rintro e w5 ⟨rfl, B5, G5⟩
  have O4 := own_ext HO2.out (E3.trans (Ec.trans E4))
  have X5 : Ext w1 w5 := (Eb.trans (E2.trans (E3.trans (Ec.trans E4)))).grownBy G5 (Nat.le_refl _)
  have HO5 := Lib.hid (own_far O4 G5 (own_apart O4 B4 (by decide)).symm)
  clear O4 HO2 B4 B5 G5 B3 Bc Bb Ba R3 R0
  go_wp2_with fail
  refine (eqByteS_sl (Sl.own HO5.out) (HS1.out.ext X5) hnL).mono ?_
  rintro e w6 ⟨rfl, E6, -⟩
  go_wp2_with fail
  refine (markByteS_any wb.heap.size L.length v2 1 _ w6 hnL (by omega) (by omega) (own_ext HO5.out E6)).mono ?_
  rintro e w7 ⟨rfl, O7, G7⟩
  have X7 : Ext w1 w7 := (X5.trans E6).grown G7 (fun k hk => Nat.le_trans Eb.le (own_blk HO5.out k hk))
  have HO7 := Lib.hid O7
  clear O7 G7
  obtain ⟨A2, cap2, rfl⟩ := own_slice HO5.out
  go_wp2_with fail
  refine (heldByteS_any A2 L.length cap2 1 w7 hnL (by omega) (by omega) (own_rd' HO7.out).2).mono ?_
  rintro e w8 ⟨rfl, rfl⟩
  go_wp2_with fail
  refine (toStringS_any A n cp l w7 HLL.out hn (R1.ext X7)).mono ?_
  rintro e wd ⟨rfl, Bd, -, Ed⟩
  go_wp2_with fail
  refine (HI.out wd _ Bd hn).mono ?_
  rintro e w9 ⟨v9, rfl, O9, E9⟩
  have HO9 := Lib.hid O9
  clear O9
  go_wp2_with fail
  refine (eqByteS_sl (Sl.own HO9.out) (HS1.out.ext (X7.trans (Ed.trans E9))) hnL).mono ?_
  rintro e wx ⟨rfl, Ex, -⟩
  go_wp2_with fail
  refine (heldByteS_any A2 L.length cap2 1 wx hnL (by omega) (by omega) (own_rd' (own_ext HO7.out (Ed.trans (E9.trans Ex)))).2).mono ?_
  rintro e wy ⟨rfl, rfl⟩
  go_wp2_with fail
  go_ret
  exact ⟨rfl, E0.trans (Ea.trans (E1.trans (X7.trans (Ed.trans (E9.trans Ex)))))⟩
end Go.Proofs.Yteaefjicpefgnaa
