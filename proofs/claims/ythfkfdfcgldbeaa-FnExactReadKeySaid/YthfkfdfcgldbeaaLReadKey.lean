/- The walk of FnExactReadKey. -/
import Derived.Test.YthfkfdfcgldbeaaKeyR5
import Derived.Test.YthfkfdfcgldbeaaMarkS
import Derived.Test.YthfkfdfcgldbeaaBytes
namespace Go.Proofs.Ythfkfdfcgldbeaa
open Go.RowKit Go.Deep
set_option linter.unusedVariables false
set_option maxRecDepth 100000
theorem own_rdN {w : World} {B n size : Nat} {e : TypeId} {v : Value} {xs : List Value} (h : w.ownsRow B e size v n xs) : ∃ A cap, v = .slice A n cap ∧ Rd w A xs := by
  obtain ⟨hlen, h⟩ := h
  rcases h with ⟨rfl, rfl⟩ | ⟨g, cap, cur, rfl, hb, hh, h1, h2, h3, h4⟩
  · have : xs = [] := by cases xs with
      | nil => rfl
      | cons a r => simp at hlen
    subst this; exact ⟨none, 0, rfl, Rd.nil _ _⟩
  · exact ⟨_, cap, rfl, Rd.take_ (t := e) (cs := cur.toList) (by simpa [Blk] using hh) h4⟩
/-- a slice of values that reads as these -/
def VlS (w : World) (v : Value) (l : List CValue) : Prop := ∃ A cap, v = .slice A l.length cap ∧ Rd w A (l.flatMap CValue.cs)
theorem VlS.own {w : World} {B : Nat} {e : TypeId} {v : Value} {l : List CValue} (h : w.ownsRow B e 3 v l.length (l.flatMap CValue.cs)) : VlS w v l := by
  obtain ⟨A, cap, rfl, hr⟩ := own_rdN h
  exact ⟨A, cap, rfl, hr⟩
theorem VlS.ext {w w' : World} {v : Value} {l : List CValue} (h : VlS w v l) (E : Ext w w') : VlS w' v l := by
  obtain ⟨A, cap, e, hr⟩ := h
  exact ⟨A, cap, e, hr.ext E⟩
theorem rkL_len (l : List UInt8) : (rkL l).length ≤ 4096 := by
  unfold rkL; split
  · simp
  · split
    · simp
    · split
      · simp
      · omega
theorem eqValueS_vl {v v' : Value} {l : List CValue} {w : World} (h : VlS w v l) (h' : VlS w v' l) (hn : l.length ≤ 1099511627776) :
    Calls Try.prog 27 #[v, v'] w fun e w' => e = .returned (.bool true) ∧ Ext w w' := by
  obtain ⟨A, cap, rfl, hr⟩ := h
  obtain ⟨A', cap', rfl, hr'⟩ := h'
  exact eqValueS_same A A' l.length cap cap' l w rfl hn hr hr'
theorem markValueS_none (A : Option Addr) (cp : Nat) (k : Int) (w : World) :
    Calls Try.prog 28 #[.slice A 0 cp, .int .i64 k] w fun e w' => e = .returned (.int .i64 k) ∧ w = w' := by
  go_enter Try.func28, Try.ntmps28
  go_wp2
  go_loopw [5, 1] (fun i t wr => i = .int .i64 0 ∧ t = .int .i64 k ∧ wr = w) (fun i _ _ => 0)
  case atStart => exact ⟨rfl, rfl, rfl⟩
  case round =>
    obtain ⟨rfl, rfl, rfl⟩ := hrel
    go_wp2_with fail
    go_ret
    exact ⟨rfl, rfl⟩
theorem markValueS_own (B : Nat) (v : Value) (k : Int) (l : List CValue) (w : World) (hn : l.length ≤ 1000000) (h1 : 1 ≤ k) (h2 : k ≤ 4000000) (h : w.ownsRow B 30 3 v l.length (l.flatMap CValue.cs)) :
    Calls Try.prog 28 #[v, .int .i64 k] w fun e w' => e = .returned (.int .i64 (k + 3 * l.length)) ∧ w'.ownsRow B 30 3 v l.length ((marksF mkValue 3 k l.length).flatMap CValue.cs) ∧ w.grownBy w' v.ownBlock := by
  by_cases h0 : l.length = 0
  · have hl : l = [] := List.eq_nil_of_length_eq_zero h0
    subst hl
    obtain ⟨A, cap, rfl⟩ := own_sliceN h
    refine (markValueS_none A cap k w).mono ?_
    rintro e w' ⟨rfl, rfl⟩
    exact ⟨by simp, h, grown_ext (Ext.refl _)⟩
  obtain ⟨g, cap, cs, rfl, hB, hc1, hc2, hblk, hlen, htk⟩ := own_form h (by omega)
  have hcs : cs = l.flatMap CValue.cs ++ cs.drop (l.length * 3) := by rw [← htk, List.take_append_drop]
  rw [hcs] at hblk
  refine (markValueS_any g l.length cap k l (cs.drop (l.length * 3)) w hn h1 h2 rfl hblk).mono ?_
  rintro e w' ⟨rfl, hb', hg⟩
  have hml := marksF_flat mkValue CValue.len 3 k l.length
  refine ⟨rfl, ⟨hml, Or.inr ⟨g, cap, ((marksF mkValue 3 k l.length).flatMap CValue.cs ++ cs.drop (l.length * 3)).toArray, rfl, hB, hb', hc1, hc2, ?_, ?_⟩⟩, hg⟩
  · simp only [List.size_toArray, List.length_append, hml, List.length_drop, hlen]
    have : l.length * 3 ≤ cap * 3 := Nat.mul_le_mul_right 3 hc1
    omega
  · rw [List.take_append_of_le_length (by rw [hml]; exact Nat.le_refl _), List.take_of_length_le (by rw [hml]; exact Nat.le_refl _)]
set_option maxHeartbeats 4000000 in
theorem walk_FnExactReadKey (w : World) (A : Option Addr) (n cp : Nat) (l : List UInt8) (hl : l.length = n) (hc : n ≤ cp) (hm : cp ≤ maxLen) (hr : Rd w A (l.map fun c => Value.int .u8 (c.toNat : Int))) :
    Calls Try.prog 5 #[.slice A n cp] w fun e w' => e = .returned (.bool true) ∧ Ext w w' := by
  unfold maxLen at hm
  by_cases hbig : (1048576 : Int) < (n : Int)
  · clear hl hr
    go_enter Try.func5, Try.ntmps5
    go_wp2_with fail
    go_ret
    exact ⟨rfl, Ext.refl _⟩
  have hn : n ≤ 1099511627776 := by omega
  have hS := fun W b (hW : Blk W b 5 (l.map fun c => Value.int .u8 (c.toNat : Int))) => spec_ReadKey (some ⟨b, 0, none⟩) n n l W hl hW.rd
  have hI := fun W b (hW : Blk W b 5 (l.map fun c => Value.int .u8 (c.toNat : Int))) => impl_ReadKey (some ⟨b, 0, none⟩) n n l W hl (Nat.le_refl _) (by unfold maxLen; omega) hW.rd
  unfold RkPost at hS hI
  have hL := rkL_len l
  generalize rkL l = L at hS hI hL
  generalize rkC l = C at hS hI
  have HL := Lib.hid hl
  have HS := Lib.hid hS
  have HI := Lib.hid hI
  have hnL : L.length ≤ 1099511627776 := by omega
  have hcc : (C != C) = false := by simp
  clear hl hS hI
  go_enter Try.func5, Try.ntmps5
  go_wp2_with fail
  refine (toByteS_any A n cp l w HL.out hn hr).mono ?_
  rintro e wa ⟨rfl, Ba, -, Ea⟩
  go_wp2_with fail
  refine (HS.out wa _ Ba).mono ?_
  rintro e w1 ⟨v1, rfl, O1, E1⟩
  have HS1 := Lib.hid (VlS.own O1)
  have R1 := (hr.ext Ea).ext E1
  clear O1 Ba
  go_wp2_with fail
  refine (toByteS_any A n cp l w1 HL.out hn R1).mono ?_
  rintro e wb ⟨rfl, Bb, -, Eb⟩
  go_wp2_with fail
  refine (HI.out wb _ Bb).mono ?_
  rintro e w2 ⟨v2, rfl, O2, E2⟩
  have HO2 := Lib.hid O2
  clear O2
  go_wp2_with fail
  refine (eqValueS_vl (VlS.own HO2.out) (HS1.out.ext (Eb.trans E2)) hnL).mono ?_
  rintro e w3 ⟨rfl, E3⟩
  have R3 := ((R1.ext Eb).ext E2).ext E3
  go_wp2_with fail
  refine (toByteS_any A n cp l w3 HL.out hn R3).mono ?_
  rintro e wc ⟨rfl, Bc, -, Ec⟩
  have B3 := Bb.ext (E2.trans (E3.trans Ec))
  go_wp2_with fail
  refine (eqByteS_same _ _ n n n l wc HL.out hn B3.rd Bc.rd).mono ?_
  rintro e w4 ⟨rfl, E4, -⟩
  have B4 := B3.ext E4
  clear B3 Bc Bb R3
  have HM := Lib.hid (markByteS_blk w1.heap.size n n 1 _ w4 hn (by omega) (by omega) (by rw [List.length_map, HL.out]; exact Nat.le_refl _) B4)
  go_wp2_with fail
  refine HM.out.mono ?_
  rintro e w5 ⟨rfl, B5, G5⟩
  have O4 := own_ext HO2.out (E3.trans (Ec.trans E4))
  have X5 : Ext w1 w5 := (Eb.trans (E2.trans (E3.trans (Ec.trans E4)))).grownBy G5 (Nat.le_refl _)
  have HO5 := Lib.hid (own_far O4 G5 (own_apart O4 B4 (by decide)).symm)
  clear O4 HO2 B4 B5 G5
  go_wp2_with fail
  refine (eqValueS_vl (VlS.own HO5.out) (HS1.out.ext X5) hnL).mono ?_
  rintro e w6 ⟨rfl, E6⟩
  go_wp2_with fail
  refine (markValueS_own wb.heap.size v2 1 L _ (by omega) (by omega) (by omega) (own_ext HO5.out E6)).mono ?_
  rintro e w7 ⟨rfl, O7, G7⟩
  have X7 : Ext w1 w7 := (X5.trans E6).grown G7 (fun k hk => Nat.le_trans Eb.le (own_blk HO5.out k hk))
  have HO7 := Lib.hid O7
  have hRd : ∀ W, Ext w7 W → ∃ A2 cap2, v2 = .slice A2 L.length cap2 ∧ Rd W A2 ((marksF mkValue 3 1 L.length).flatMap CValue.cs) := by
    intro W E
    exact own_rdN (own_ext O7 E)
  have HRD := Lib.hid hRd
  clear O7 G7 hRd
  obtain ⟨A2, cap2, rfl⟩ := own_sliceN HO5.out
  have HR2 := Lib.hid (show ∀ W, Ext w7 W → Rd W A2 ((marksF mkValue 3 1 L.length).flatMap CValue.cs) from fun W E => by
    obtain ⟨A3, cap3, e, h⟩ := HRD.out W E
    injection e with e1 e2 e3
    subst e1; exact h)
  clear HRD
  go_wp2_with fail
  refine (heldValueS_any A2 L.length cap2 1 w7 (by omega) (by omega) (by omega) (HR2.out _ (Ext.refl _))).mono ?_
  rintro e w8 ⟨rfl, E8⟩
  have X8 := X7.trans E8
  have hd : ¬ (1 : Int) + 3 * (L.length : Int) < 0 := by omega
  clear HO7
  go_wp2_with fail
  refine (toByteS_any A n cp l w8 HL.out hn (R1.ext X8)).mono ?_
  rintro e wd ⟨rfl, Bd, -, Ed⟩
  go_wp2_with fail
  refine (HI.out wd _ Bd).mono ?_
  rintro e w9 ⟨v9, rfl, O9, E9⟩
  have HO9 := Lib.hid O9
  clear O9 Bd
  go_wp2_with fail
  refine (eqValueS_vl (VlS.own HO9.out) (HS1.out.ext (X8.trans (Ed.trans E9))) hnL).mono ?_
  rintro e wx ⟨rfl, Ex⟩
  go_wp2_with fail
  refine (heldValueS_any A2 L.length cap2 1 wx (by omega) (by omega) (by omega) (HR2.out _ (E8.trans (Ed.trans (E9.trans Ex))))).mono ?_
  rintro e wy ⟨rfl, Ey⟩
  go_wp2_with fail
  go_ret
  exact ⟨rfl, Ea.trans (E1.trans (X8.trans (Ed.trans (E9.trans (Ex.trans Ey)))))⟩
end Go.Proofs.Ythfkfdfcgldbeaa
