/- The walk of the program's ReadRecord (printed by gen_readrec.py). -/
import Derived.Test.YteaefjicpefgnaaReadFields2
import Derived.Test.YteaefjicpefgnaaRecBytes2
import Derived.Test.YteaefjicpefgnaaRg
namespace Go.Proofs.Yteaefjicpefgnaa
open Go.RowKit Go.Deep
set_option linter.unusedVariables false
set_option maxRecDepth 100000
/-- the fields behind a record's head -/
def rrF (d : List UInt8) : List ByteArray × List UInt8 × Bool := fld (nmV (d.drop 9)) (d.drop 9).tail (decide (d.length < 9) || (d.drop 9).isEmpty) []
/-- whether bytes are a record's -/
def rrOK (d : List UInt8) : Bool := (!(rrF d).2.2 && (rrF d).2.1.isEmpty) && decide (nmV d = 108) && decide ((rrF d).1.length = 2) && recB (nmV (d.drop 1) : Int) (nmV (d.drop 2) : Int) (nmV (d.drop 3) : Int) (nmV (d.drop 4) : Int) (nmV (d.drop 5) : Int) (nmV (d.drop 6) : Int) (nmV (d.drop 7) : Int) (nmV (d.drop 8) : Int) ((rrF d).1.getD 0 ByteArray.empty) ((rrF d).1.getD 1 ByteArray.empty)
def rrG (l : List UInt8) : Bool := decide (l.length ≤ 65536) && sealB? l && rrOK (bodyB l)
def rrN (l : List UInt8) (i : Nat) : Int := if rrG l then (nmV ((bodyB l).drop i) : Int) else 0
def rrS (l : List UInt8) (j : Nat) : ByteArray := if rrG l then (rrF (bodyB l)).1.getD j ByteArray.empty else ByteArray.empty
def rrC (l : List UInt8) : Int := if 65536 < l.length then 2 else if sealB? l = false then 8 else if rrOK (bodyB l) then 0 else 3
/-- a record with a code -/
def RrPost (w : World) (l : List UInt8) (e : Ending) (w' : World) : Prop :=
  e = .returned (.tuple #[.agg #[.int .i64 (rrN l 1), .int .i64 (rrN l 2), .int .i64 (rrN l 3), .int .i64 (rrN l 4), .int .i64 (rrN l 5), .int .i64 (rrN l 6), .int .i64 (rrN l 7), .int .i64 (rrN l 8), .string (rrS l 0), .string (rrS l 1)], .int .i64 (rrC l)]) ∧ Ext w w'
theorem RrPost.none {w w' : World} {l : List UInt8} {C : Int} (hg : rrG l = false) (hC : rrC l = C) (E : Ext w w') : RrPost w l (.returned (.tuple #[.agg #[.int .i64 0, .int .i64 0, .int .i64 0, .int .i64 0, .int .i64 0, .int .i64 0, .int .i64 0, .int .i64 0, .string ByteArray.empty, .string ByteArray.empty], .int .i64 C])) w' := by
  refine ⟨?_, E⟩
  rw [hC]
  unfold rrN rrS
  rw [hg]; rfl
theorem RrPost.some {w w' : World} {l : List UInt8} (hg : rrG l = true) (hC : rrC l = 0) (E : Ext w w') : RrPost w l (.returned (.tuple #[.agg #[.int .i64 (nmV ((bodyB l).drop 1) : Int), .int .i64 (nmV ((bodyB l).drop 2) : Int), .int .i64 (nmV ((bodyB l).drop 3) : Int), .int .i64 (nmV ((bodyB l).drop 4) : Int), .int .i64 (nmV ((bodyB l).drop 5) : Int), .int .i64 (nmV ((bodyB l).drop 6) : Int), .int .i64 (nmV ((bodyB l).drop 7) : Int), .int .i64 (nmV ((bodyB l).drop 8) : Int), .string ((rrF (bodyB l)).1.getD 0 ByteArray.empty), .string ((rrF (bodyB l)).1.getD 1 ByteArray.empty)], .int .i64 0])) w' := by
  refine ⟨?_, E⟩
  rw [hC]
  unfold rrN rrS
  rw [hg]; rfl
theorem rr_long {l : List UInt8} (h : 65536 < l.length) : rrG l = false ∧ rrC l = 2 := ⟨by unfold rrG; rw [decide_eq_false (by omega)]; rfl, by unfold rrC; rw [if_pos h]⟩
theorem rr_sum {l : List UInt8} (h : ¬ 65536 < l.length) (hs : sealB? l = false) : rrG l = false ∧ rrC l = 8 := ⟨by unfold rrG; rw [hs]; simp, by unfold rrC; rw [if_neg h, if_pos hs]⟩
theorem rr_form {l : List UInt8} (h : ¬ 65536 < l.length) (hs : sealB? l = true) (ho : rrOK (bodyB l) = false) : rrG l = false ∧ rrC l = 3 := ⟨by unfold rrG; rw [ho]; simp, by unfold rrC; rw [if_neg h, if_neg (by rw [hs]; decide), ho]; rfl⟩
theorem rr_good {l : List UInt8} (h : ¬ 65536 < l.length) (hs : sealB? l = true) (ho : rrOK (bodyB l) = true) : rrG l = true ∧ rrC l = 0 := ⟨by unfold rrG; rw [hs, ho, decide_eq_true (by omega)]; rfl, by unfold rrC; rw [if_neg h, if_neg (by rw [hs]; decide), ho]; rfl⟩
theorem rd_two {w : World} {b o : Nat} {x y : Value} (h : Rd w (some ⟨b, o, none⟩) [x, y]) : w.cell? ⟨b, o, none⟩ = some x ∧ w.cell? ⟨b, o + 1, none⟩ = some y := by
  obtain ⟨b', o', e, hx⟩ := h (by simp)
  injection e with e
  injection e with e1 e2 _
  subst e1; subst e2
  exact ⟨hx 0 _ rfl, hx 1 _ rfl⟩
theorem two_list {F : List ByteArray} (h : F.length = 2) : F = [F.getD 0 ByteArray.empty, F.getD 1 ByteArray.empty] := by
  match F, h with
  | [a, b], _ => rfl
theorem rd_numI (b D i : Nat) (d : List UInt8) (w : World) (hR : Rdr w b 85 D (d.drop i) (decide (d.length < i))) :
    Calls Try.prog 90 #[.pointer (some ⟨b, 0, none⟩)] w fun e w' => e = .returned (.int .i64 (nmV (d.drop i) : Nat)) ∧ Rdr w' b 85 D (d.drop (i + 1)) (decide (d.length < i + 1)) ∧ w.grownBy w' (some b) := by
  have h := rd_num b D _ _ w hR
  have e1 : (d.drop i).tail = d.drop (i + 1) := by rw [List.tail_drop]
  have e2 : (decide (d.length < i) || (d.drop i).isEmpty) = decide (d.length < i + 1) := by
    have : (d.drop i).isEmpty = decide (d.length ≤ i) := by
      rw [Bool.eq_iff_iff, List.isEmpty_iff, List.drop_eq_nil_iff, decide_eq_true_eq]
    rw [this, Bool.eq_iff_iff]; simp; omega
  rw [e1, e2] at h
  exact h
set_option maxHeartbeats 8000000 in
theorem impl_ReadRecord (A : Option Addr) (n cp : Nat) (l : List UInt8) (w : World) (hl : l.length = n) (hn : n ≤ 1099511627776) (hc : n ≤ cp) (hm : cp ≤ maxLen) (hr : Rd w A (l.map fun c => Value.int .u8 (c.toNat : Int))) :
    Calls Try.prog 50 #[.slice A n cp] w (RrPost w l) := by
  have E0 : Ext w (w.alloc (.cells #[.int .i64 0, .int .i64 0, .int .i64 0, .int .i64 0, .int .i64 0, .int .i64 0, .int .i64 0, .int .i64 0, .string ByteArray.empty, .string ByteArray.empty] 57)) := (by repeat (first | exact Ext.refl _ | assumption | refine Ext.alloc ?_ _ | refine Ext.drewN ?_ _ | refine Ext.drew ?_ | refine Ext.set ?_ (by dsimp only; omega) _ | refine Ext.trans ?_ (by assumption)))
  have hX := Blk.new w 57 [.int .i64 0, .int .i64 0, .int .i64 0, .int .i64 0, .int .i64 0, .int .i64 0, .int .i64 0, .int .i64 0, .string ByteArray.empty, .string ByteArray.empty]
  by_cases h1 : 65536 < n
  · have HV := Lib.hid (rr_long (l := l) (by omega))
    have h1I : (65536 : Int) < (n : Int) := by omega
    clear hl hr
    go_enter Try.func50, Try.ntmps50
    go_wp2_with fail
    refine bodyPost_ret (v := .tuple #[.agg #[.int .i64 0, .int .i64 0, .int .i64 0, .int .i64 0, .int .i64 0, .int .i64 0, .int .i64 0, .int .i64 0, .string ByteArray.empty, .string ByteArray.empty], .int .i64 2]) (by simp [results, Try.results50, go_sem]; try rfl) rfl ?_
    exact .none HV.out.1 HV.out.2 E0
  have h1I : ¬ (65536 : Int) < (n : Int) := by omega
  have h1' : ¬ 65536 < l.length := by omega
  by_cases h4 : n < 4
  · have HV := Lib.hid (rr_sum h1' (by unfold sealB?; rw [decide_eq_false (by omega)]; rfl))
    have HU := Lib.hid (fun W => impl_unsealed_short A n cp W h4)
    clear hl h4 hr h1'
    go_enter Try.func50, Try.ntmps50
    go_wp2_with fail
    refine (HU.out _).mono ?_
    rintro e w1 ⟨rfl, E1⟩
    have hX1 := hX.ext E1
    have c0 : w1.cell? ⟨w.heap.size, 0, none⟩ = some (.int .i64 0) := hX1.cell (i := 0) (by simp)
    have c1 : w1.cell? ⟨w.heap.size, 1, none⟩ = some (.int .i64 0) := hX1.cell (i := 1) (by simp)
    have c2 : w1.cell? ⟨w.heap.size, 2, none⟩ = some (.int .i64 0) := hX1.cell (i := 2) (by simp)
    have c3 : w1.cell? ⟨w.heap.size, 3, none⟩ = some (.int .i64 0) := hX1.cell (i := 3) (by simp)
    have c4 : w1.cell? ⟨w.heap.size, 4, none⟩ = some (.int .i64 0) := hX1.cell (i := 4) (by simp)
    have c5 : w1.cell? ⟨w.heap.size, 5, none⟩ = some (.int .i64 0) := hX1.cell (i := 5) (by simp)
    have c6 : w1.cell? ⟨w.heap.size, 6, none⟩ = some (.int .i64 0) := hX1.cell (i := 6) (by simp)
    have c7 : w1.cell? ⟨w.heap.size, 7, none⟩ = some (.int .i64 0) := hX1.cell (i := 7) (by simp)
    have c8 : w1.cell? ⟨w.heap.size, 8, none⟩ = some (.string ByteArray.empty) := hX1.cell (i := 8) (by simp)
    have c9 : w1.cell? ⟨w.heap.size, 9, none⟩ = some (.string ByteArray.empty) := hX1.cell (i := 9) (by simp)
    have f0 := hX1.frozen 0
    have f1 := hX1.frozen 1
    have f2 := hX1.frozen 2
    have f3 := hX1.frozen 3
    have f4 := hX1.frozen 4
    have f5 := hX1.frozen 5
    have f6 := hX1.frozen 6
    have f7 := hX1.frozen 7
    have f8 := hX1.frozen 8
    have f9 := hX1.frozen 9
    go_wp2_with fail
    refine bodyPost_ret (v := .tuple #[.agg #[.int .i64 0, .int .i64 0, .int .i64 0, .int .i64 0, .int .i64 0, .int .i64 0, .int .i64 0, .int .i64 0, .string ByteArray.empty, .string ByteArray.empty], .int .i64 8]) (by simp [results, Try.results50, go_sem, c0, c1, c2, c3, c4, c5, c6, c7, c8, c9]; try rfl) rfl ?_
    exact .none HV.out.1 HV.out.2 ((((((((((((E0.trans E1).set (Nat.le_refl _) _).set (Nat.le_refl _) _).set (Nat.le_refl _) _).set (Nat.le_refl _) _).set (Nat.le_refl _) _).set (Nat.le_refl _) _).set (Nat.le_refl _) _).set (Nat.le_refl _) _).set (Nat.le_refl _) _).set (Nat.le_refl _) _))
  have hm' : (0 : Nat) < (l.map fun c => Value.int .u8 (c.toNat : Int)).length := by simp; omega
  obtain ⟨b, o, rfl, hx⟩ := hr (by intro e; rw [e] at hm'; simp at hm')
  have HU := Lib.hid (impl_unsealed b o n cp l _ hl (by omega) hn hc hm (hr.ext E0))
  rcases hs : sealB? l with _ | _
  · have HV := Lib.hid (rr_sum h1' hs)
    have HS := Lib.hid hs
    clear hl h4 hr h1' hm' hx hs
    go_enter Try.func50, Try.ntmps50
    go_wp2_with fail
    refine (HU.out).mono ?_
    rintro e w1 ⟨rfl, E1⟩
    rw [HS.out, if_neg (by decide)]
    have hX1 := hX.ext E1
    have c0 : w1.cell? ⟨w.heap.size, 0, none⟩ = some (.int .i64 0) := hX1.cell (i := 0) (by simp)
    have c1 : w1.cell? ⟨w.heap.size, 1, none⟩ = some (.int .i64 0) := hX1.cell (i := 1) (by simp)
    have c2 : w1.cell? ⟨w.heap.size, 2, none⟩ = some (.int .i64 0) := hX1.cell (i := 2) (by simp)
    have c3 : w1.cell? ⟨w.heap.size, 3, none⟩ = some (.int .i64 0) := hX1.cell (i := 3) (by simp)
    have c4 : w1.cell? ⟨w.heap.size, 4, none⟩ = some (.int .i64 0) := hX1.cell (i := 4) (by simp)
    have c5 : w1.cell? ⟨w.heap.size, 5, none⟩ = some (.int .i64 0) := hX1.cell (i := 5) (by simp)
    have c6 : w1.cell? ⟨w.heap.size, 6, none⟩ = some (.int .i64 0) := hX1.cell (i := 6) (by simp)
    have c7 : w1.cell? ⟨w.heap.size, 7, none⟩ = some (.int .i64 0) := hX1.cell (i := 7) (by simp)
    have c8 : w1.cell? ⟨w.heap.size, 8, none⟩ = some (.string ByteArray.empty) := hX1.cell (i := 8) (by simp)
    have c9 : w1.cell? ⟨w.heap.size, 9, none⟩ = some (.string ByteArray.empty) := hX1.cell (i := 9) (by simp)
    have f0 := hX1.frozen 0
    have f1 := hX1.frozen 1
    have f2 := hX1.frozen 2
    have f3 := hX1.frozen 3
    have f4 := hX1.frozen 4
    have f5 := hX1.frozen 5
    have f6 := hX1.frozen 6
    have f7 := hX1.frozen 7
    have f8 := hX1.frozen 8
    have f9 := hX1.frozen 9
    go_wp2_with fail
    refine bodyPost_ret (v := .tuple #[.agg #[.int .i64 0, .int .i64 0, .int .i64 0, .int .i64 0, .int .i64 0, .int .i64 0, .int .i64 0, .int .i64 0, .string ByteArray.empty, .string ByteArray.empty], .int .i64 8]) (by simp [results, Try.results50, go_sem, c0, c1, c2, c3, c4, c5, c6, c7, c8, c9]; try rfl) rfl ?_
    exact .none HV.out.1 HV.out.2 ((((((((((((E0.trans E1).set (Nat.le_refl _) _).set (Nat.le_refl _) _).set (Nat.le_refl _) _).set (Nat.le_refl _) _).set (Nat.le_refl _) _).set (Nat.le_refl _) _).set (Nat.le_refl _) _).set (Nat.le_refl _) _).set (Nat.le_refl _) _).set (Nat.le_refl _) _))
  have HS := Lib.hid hs
  have hbl : (bodyB l).length = n - 4 := by unfold bodyB; rw [List.length_take, hl]; omega
  have hbr : Rd w (some ⟨b, o, none⟩) ((bodyB l).map fun c => Value.int .u8 (c.toNat : Int)) := by unfold bodyB; rw [List.map_take]; exact rd_take hr _
  have hblt : b < w.heap.size := by
    cases l with
    | nil => simp at hm'
    | cons c r => exact lt_of_cell (hx 0 _ rfl)
  have HVF := Lib.hid (rr_form h1' hs)
  have HVG := Lib.hid (rr_good h1' hs)
  have HSO := Lib.hid (fun (w' : World) hg hC E => RrPost.some (w := w) (w' := w') (l := l) hg hC E)
  have hF2 : rrF (bodyB l) = rrF (bodyB l) := rfl
  generalize bodyB l = d at hbl hbr HVF HVG HSO
  have HBR := Lib.hid hbr
  have HBL := Lib.hid hbl
  clear hl h4 hr h1' hm' hx hs hbr hbl hF2
  go_enter Try.func50, Try.ntmps50
  go_wp2_with fail
  refine (HU.out).mono ?_
  rintro e w1 ⟨rfl, E1⟩
  rw [HS.out, if_pos rfl]
  have HE1 := Lib.hid (E0.trans E1)
  have HX1 := Lib.hid (hX.ext E1)
  clear E0 E1 HU hX
  have hle1 := HE1.out.le
  have hB1 := HX1.out.lt
  have hR : Rdr (w1.alloc (.cells #[.slice (some ⟨b, o, none⟩) (n - 4) cp, .bool false] 85)) w1.heap.size 85 w.heap.size (d.drop 0) (decide (d.length < 0)) :=
    ⟨_, _, _, Blk.new w1 _ [.slice (some ⟨b, o, none⟩) (n - 4) cp, .bool false], by rw [List.drop_zero]; exact HBL.out, by omega, hm, by rw [List.drop_zero]; exact (HBR.out.ext HE1.out).ext (by repeat (first | exact Ext.refl _ | assumption | refine Ext.alloc ?_ _ | refine Ext.drewN ?_ _ | refine Ext.drew ?_ | refine Ext.set ?_ (by dsimp only; omega) _ | refine Ext.trans ?_ (by assumption))), fun _ a ha => by injection ha with ha; subst ha; exact hblt⟩
  have HR0 := Lib.hid hR
  have HE2 := Lib.hid (show Ext w1 (w1.alloc (.cells #[.slice (some ⟨b, o, none⟩) (n - 4) cp, .bool false] 85)) from (by repeat (first | exact Ext.refl _ | assumption | refine Ext.alloc ?_ _ | refine Ext.drewN ?_ _ | refine Ext.drew ?_ | refine Ext.set ?_ (by dsimp only; omega) _ | refine Ext.trans ?_ (by assumption))))
  clear hR
  have HN0 := Lib.hid (rd_numI w1.heap.size w.heap.size 0 d _ HR0.out)
  rw [List.drop_zero] at HN0
  go_wp2_with fail
  refine HN0.out.mono ?_
  rintro e z1 ⟨rfl, R1, G1⟩
  have HR1 := Lib.hid R1
  have HG1 := Lib.hid (HE2.out.grownBy G1 (Nat.le_refl _))
  clear R1 G1 HR0 HE2 HN0
  have hni := rd_numI w1.heap.size w.heap.size 1 d z1 HR1.out
  generalize hm1 : nmV (d.drop 1) = m1 at hni
  have HNI := Lib.hid hni
  have HM1 := Lib.hid hm1
  clear hni hm1
  go_wp2_with fail
  refine HNI.out.mono ?_
  rintro e z2 ⟨rfl, R2, G2⟩
  have HR2 := Lib.hid R2
  have HG2 := Lib.hid (HG1.out.grownBy G2 (Nat.le_refl _))
  clear R2 G2 HR1 HG1 HNI
  have hni := rd_numI w1.heap.size w.heap.size 2 d z2 HR2.out
  generalize hm2 : nmV (d.drop 2) = m2 at hni
  have HNI := Lib.hid hni
  have HM2 := Lib.hid hm2
  clear hni hm2
  go_wp2_with fail
  refine HNI.out.mono ?_
  rintro e z3 ⟨rfl, R3, G3⟩
  have HR3 := Lib.hid R3
  have HG3 := Lib.hid (HG2.out.grownBy G3 (Nat.le_refl _))
  clear R3 G3 HR2 HG2 HNI
  have hni := rd_numI w1.heap.size w.heap.size 3 d z3 HR3.out
  generalize hm3 : nmV (d.drop 3) = m3 at hni
  have HNI := Lib.hid hni
  have HM3 := Lib.hid hm3
  clear hni hm3
  go_wp2_with fail
  refine HNI.out.mono ?_
  rintro e z4 ⟨rfl, R4, G4⟩
  have HR4 := Lib.hid R4
  have HG4 := Lib.hid (HG3.out.grownBy G4 (Nat.le_refl _))
  clear R4 G4 HR3 HG3 HNI
  have hni := rd_numI w1.heap.size w.heap.size 4 d z4 HR4.out
  generalize hm4 : nmV (d.drop 4) = m4 at hni
  have HNI := Lib.hid hni
  have HM4 := Lib.hid hm4
  clear hni hm4
  go_wp2_with fail
  refine HNI.out.mono ?_
  rintro e z5 ⟨rfl, R5, G5⟩
  have HR5 := Lib.hid R5
  have HG5 := Lib.hid (HG4.out.grownBy G5 (Nat.le_refl _))
  clear R5 G5 HR4 HG4 HNI
  have hni := rd_numI w1.heap.size w.heap.size 5 d z5 HR5.out
  generalize hm5 : nmV (d.drop 5) = m5 at hni
  have HNI := Lib.hid hni
  have HM5 := Lib.hid hm5
  clear hni hm5
  go_wp2_with fail
  refine HNI.out.mono ?_
  rintro e z6 ⟨rfl, R6, G6⟩
  have HR6 := Lib.hid R6
  have HG6 := Lib.hid (HG5.out.grownBy G6 (Nat.le_refl _))
  clear R6 G6 HR5 HG5 HNI
  have hni := rd_numI w1.heap.size w.heap.size 6 d z6 HR6.out
  generalize hm6 : nmV (d.drop 6) = m6 at hni
  have HNI := Lib.hid hni
  have HM6 := Lib.hid hm6
  clear hni hm6
  go_wp2_with fail
  refine HNI.out.mono ?_
  rintro e z7 ⟨rfl, R7, G7⟩
  have HR7 := Lib.hid R7
  have HG7 := Lib.hid (HG6.out.grownBy G7 (Nat.le_refl _))
  clear R7 G7 HR6 HG6 HNI
  have hni := rd_numI w1.heap.size w.heap.size 7 d z7 HR7.out
  generalize hm7 : nmV (d.drop 7) = m7 at hni
  have HNI := Lib.hid hni
  have HM7 := Lib.hid hm7
  clear hni hm7
  go_wp2_with fail
  refine HNI.out.mono ?_
  rintro e z8 ⟨rfl, R8, G8⟩
  have HR8 := Lib.hid R8
  have HG8 := Lib.hid (HG7.out.grownBy G8 (Nat.le_refl _))
  clear R8 G8 HR7 HG7 HNI
  have hni := rd_numI w1.heap.size w.heap.size 8 d z8 HR8.out
  generalize hm8 : nmV (d.drop 8) = m8 at hni
  have HNI := Lib.hid hni
  have HM8 := Lib.hid hm8
  clear hni hm8
  go_wp2_with fail
  refine HNI.out.mono ?_
  rintro e z9 ⟨rfl, R9, G9⟩
  have HR9 := Lib.hid R9
  have HG9 := Lib.hid (HG8.out.grownBy G9 (Nat.le_refl _))
  clear R9 G9 HR8 HG8 HNI
  have hlx : w1.heap.size < z9.heap.size := by have := HR9.out.lt; omega
  have EX9 : Ext z9 (z9.alloc (.cells #[.int .i64 (m1 : Int), .int .i64 (m2 : Int), .int .i64 (m3 : Int), .int .i64 (m4 : Int), .int .i64 (m5 : Int), .int .i64 (m6 : Int), .int .i64 (m7 : Int), .int .i64 (m8 : Int), .string ⟨#[]⟩, .string ⟨#[]⟩] 57)) := (by repeat (first | exact Ext.refl _ | assumption | refine Ext.alloc ?_ _ | refine Ext.drewN ?_ _ | refine Ext.drew ?_ | refine Ext.set ?_ (by dsimp only; omega) _ | refine Ext.trans ?_ (by assumption)))
  have HF := Lib.hid (rdr_fields w1.heap.size w.heap.size (decide (d.length < 9)) (d.drop 9) _ (HR9.out.ext EX9) (by have := HG9.out.le; simp; omega))
  have HBX := Lib.hid (Blk.new z9 57 [.int .i64 (m1 : Int), .int .i64 (m2 : Int), .int .i64 (m3 : Int), .int .i64 (m4 : Int), .int .i64 (m5 : Int), .int .i64 (m6 : Int), .int .i64 (m7 : Int), .int .i64 (m8 : Int), .string ⟨#[]⟩, .string ⟨#[]⟩])
  have HEX := Lib.hid (HG9.out.trans EX9)
  have hzz : (z9.alloc (.cells #[.int .i64 (m1 : Int), .int .i64 (m2 : Int), .int .i64 (m3 : Int), .int .i64 (m4 : Int), .int .i64 (m5 : Int), .int .i64 (m6 : Int), .int .i64 (m7 : Int), .int .i64 (m8 : Int), .string ⟨#[]⟩, .string ⟨#[]⟩] 57)).heap.size = z9.heap.size + 1 := by simp
  clear EX9 HR9 HG9
  have hFe : fld (nmV (d.drop 9)) (d.drop 9).tail (decide (d.length < 9) || (d.drop 9).isEmpty) [] = rrF d := rfl
  have hNe : nmV (d.drop 9) = (rrF d).1.length := by
    have := fld_len (nmV (d.drop 9)) (d.drop 9).tail (decide (d.length < 9) || (d.drop 9).isEmpty) []
    rw [hFe] at this; simpa using this.symm
  have hsm : ∀ s ∈ (rrF d).1, s.size ≤ 255 := fld_small _ _ _ _ (by simp)
  rw [hFe, hNe] at HF
  have hokd : rrOK d = ((!(rrF d).2.2 && (rrF d).2.1.isEmpty) && decide (nmV d = 108) && decide ((rrF d).1.length = 2) && recB (nmV (d.drop 1) : Int) (nmV (d.drop 2) : Int) (nmV (d.drop 3) : Int) (nmV (d.drop 4) : Int) (nmV (d.drop 5) : Int) (nmV (d.drop 6) : Int) (nmV (d.drop 7) : Int) (nmV (d.drop 8) : Int) ((rrF d).1.getD 0 ByteArray.empty) ((rrF d).1.getD 1 ByteArray.empty)) := rfl
  generalize rrF d = F at HF hsm hokd HSO
  have HOK := Lib.hid hokd
  have HSM := Lib.hid hsm
  clear hFe hNe hsm hokd
  go_wp2_with fail
  generalize hg9 : z9.alloc (.cells #[.int .i64 (m1 : Int), .int .i64 (m2 : Int), .int .i64 (m3 : Int), .int .i64 (m4 : Int), .int .i64 (m5 : Int), .int .i64 (m6 : Int), .int .i64 (m7 : Int), .int .i64 (m8 : Int), .string ⟨#[]⟩, .string ⟨#[]⟩] 57) = y9 at HF HBX HEX hzz ⊢
  clear hg9
  refine HF.out.mono ?_
  rintro e w4 ⟨v4, rfl, O4, R4, G4⟩
  obtain ⟨A4, cap4, rfl⟩ := own_slice O4
  have HO4 := Lib.hid O4
  have HE4 := Lib.hid (HEX.out.grownBy G4 (Nat.le_refl _))
  have hxb : z9.heap.size ≠ w1.heap.size := by omega
  have HB4 := Lib.hid (HBX.out.grown G4 hxb)
  have HXR := Lib.hid (HX1.out.ext HE4.out)
  have HEW := Lib.hid (HE1.out.trans HE4.out)
  have HD := Lib.hid (rd_isDone w1.heap.size w.heap.size F.2.2 F.2.1 w4 R4)
  have hB3 : w.heap.size < z9.heap.size := by omega
  clear O4 R4 G4 HF HBX HEX HX1 HE1
  have c0 : w4.cell? ⟨w.heap.size, 0, none⟩ = some (.int .i64 0) := HXR.out.cell (i := 0) (by simp)
  have c1 : w4.cell? ⟨w.heap.size, 1, none⟩ = some (.int .i64 0) := HXR.out.cell (i := 1) (by simp)
  have c2 : w4.cell? ⟨w.heap.size, 2, none⟩ = some (.int .i64 0) := HXR.out.cell (i := 2) (by simp)
  have c3 : w4.cell? ⟨w.heap.size, 3, none⟩ = some (.int .i64 0) := HXR.out.cell (i := 3) (by simp)
  have c4 : w4.cell? ⟨w.heap.size, 4, none⟩ = some (.int .i64 0) := HXR.out.cell (i := 4) (by simp)
  have c5 : w4.cell? ⟨w.heap.size, 5, none⟩ = some (.int .i64 0) := HXR.out.cell (i := 5) (by simp)
  have c6 : w4.cell? ⟨w.heap.size, 6, none⟩ = some (.int .i64 0) := HXR.out.cell (i := 6) (by simp)
  have c7 : w4.cell? ⟨w.heap.size, 7, none⟩ = some (.int .i64 0) := HXR.out.cell (i := 7) (by simp)
  have c8 : w4.cell? ⟨w.heap.size, 8, none⟩ = some (.string ByteArray.empty) := HXR.out.cell (i := 8) (by simp)
  have c9 : w4.cell? ⟨w.heap.size, 9, none⟩ = some (.string ByteArray.empty) := HXR.out.cell (i := 9) (by simp)
  have f0 := HXR.out.frozen 0
  have f1 := HXR.out.frozen 1
  have f2 := HXR.out.frozen 2
  have f3 := HXR.out.frozen 3
  have f4 := HXR.out.frozen 4
  have f5 := HXR.out.frozen 5
  have f6 := HXR.out.frozen 6
  have f7 := HXR.out.frozen 7
  have f8 := HXR.out.frozen 8
  have f9 := HXR.out.frozen 9
  have hh8 := nmV_lt d
  rcases hd : (!F.2.2 && F.2.1.isEmpty) with _ | _
  · have HV := Lib.hid (HVF.out (by rw [HOK.out, hd]; rfl))
    have HD2 := Lib.hid hd
    clear hd
    go_wp2_with fail
    refine HD.out.mono ?_
    rintro e w6 ⟨rfl, rfl⟩
    rw [HD2.out]
    go_wp2_with fail
    refine bodyPost_ret (v := .tuple #[.agg #[.int .i64 0, .int .i64 0, .int .i64 0, .int .i64 0, .int .i64 0, .int .i64 0, .int .i64 0, .int .i64 0, .string ByteArray.empty, .string ByteArray.empty], .int .i64 3]) (by simp [results, Try.results50, go_sem, c0, c1, c2, c3, c4, c5, c6, c7, c8, c9]; try rfl) rfl ?_
    exact .none HV.out.1 HV.out.2 (((((((((((HEW.out.set (Nat.le_refl _) _).set (Nat.le_refl _) _).set (Nat.le_refl _) _).set (Nat.le_refl _) _).set (Nat.le_refl _) _).set (Nat.le_refl _) _).set (Nat.le_refl _) _).set (Nat.le_refl _) _).set (Nat.le_refl _) _).set (Nat.le_refl _) _))
  have HD2 := Lib.hid hd
  by_cases hx : nmV d = 108
  case neg =>
    have hxI : ((nmV d : Int) != 108) = true := by rw [bne_iff_ne]; omega
    have HV := Lib.hid (HVF.out (by rw [HOK.out, decide_eq_false hx]; simp))
    clear hd hx
    go_wp2_with fail
    refine HD.out.mono ?_
    rintro e w6 ⟨rfl, rfl⟩
    rw [HD2.out]
    go_wp2_with fail
    refine bodyPost_ret (v := .tuple #[.agg #[.int .i64 0, .int .i64 0, .int .i64 0, .int .i64 0, .int .i64 0, .int .i64 0, .int .i64 0, .int .i64 0, .string ByteArray.empty, .string ByteArray.empty], .int .i64 3]) (by simp [results, Try.results50, go_sem, c0, c1, c2, c3, c4, c5, c6, c7, c8, c9]; try rfl) rfl ?_
    exact .none HV.out.1 HV.out.2 (((((((((((HEW.out.set (Nat.le_refl _) _).set (Nat.le_refl _) _).set (Nat.le_refl _) _).set (Nat.le_refl _) _).set (Nat.le_refl _) _).set (Nat.le_refl _) _).set (Nat.le_refl _) _).set (Nat.le_refl _) _).set (Nat.le_refl _) _).set (Nat.le_refl _) _))
  have hxI : ((nmV d : Int) != 108) = false := by rw [hx]; rfl
  by_cases hy : F.1.length = 2
  case neg =>
    have hyI : ((F.1.length : Int) != 2) = true := by rw [bne_iff_ne]; omega
    have HV := Lib.hid (HVF.out (by rw [HOK.out, decide_eq_false hy]; simp))
    clear hd hx hy
    go_wp2_with fail
    refine HD.out.mono ?_
    rintro e w6 ⟨rfl, rfl⟩
    rw [HD2.out]
    go_wp2_with fail
    refine bodyPost_ret (v := .tuple #[.agg #[.int .i64 0, .int .i64 0, .int .i64 0, .int .i64 0, .int .i64 0, .int .i64 0, .int .i64 0, .int .i64 0, .string ByteArray.empty, .string ByteArray.empty], .int .i64 3]) (by simp [results, Try.results50, go_sem, c0, c1, c2, c3, c4, c5, c6, c7, c8, c9]; try rfl) rfl ?_
    exact .none HV.out.1 HV.out.2 (((((((((((HEW.out.set (Nat.le_refl _) _).set (Nat.le_refl _) _).set (Nat.le_refl _) _).set (Nat.le_refl _) _).set (Nat.le_refl _) _).set (Nat.le_refl _) _).set (Nat.le_refl _) _).set (Nat.le_refl _) _).set (Nat.le_refl _) _).set (Nat.le_refl _) _))
  have hyI : ((F.1.length : Int) != 2) = false := by rw [hy]; rfl
  have hok2 : rrOK d = recB (nmV (d.drop 1) : Int) (nmV (d.drop 2) : Int) (nmV (d.drop 3) : Int) (nmV (d.drop 4) : Int) (nmV (d.drop 5) : Int) (nmV (d.drop 6) : Int) (nmV (d.drop 7) : Int) (nmV (d.drop 8) : Int) (F.1.getD 0 ByteArray.empty) (F.1.getD 1 ByteArray.empty) := by rw [HOK.out, hd, decide_eq_true hx, decide_eq_true hy]; simp
  have hF2 := two_list hy
  have hs0 : (F.1.getD 0 ByteArray.empty).size ≤ 255 := HSM.out _ (by rw [hF2]; simp)
  have hs1 : (F.1.getD 1 ByteArray.empty).size ≤ 255 := HSM.out _ (by rw [hF2]; simp)
  have hrd := (own_rd' HO4.out).2
  have hrd : Rd w4 A4 [.string (F.1.getD 0 ByteArray.empty), .string (F.1.getD 1 ByteArray.empty)] := by
    have e : (F.1.map fun c => Value.string c) = [.string (F.1.getD 0 ByteArray.empty), .string (F.1.getD 1 ByteArray.empty)] := by
      have := congrArg (List.map fun c => Value.string c) hF2
      simpa using this
    rw [← e]; exact hrd
  generalize F.1.getD 0 ByteArray.empty = s0 at hok2 hs0 hrd HSO
  generalize F.1.getD 1 ByteArray.empty = s1 at hok2 hs1 hrd HSO
  have HOK2 := Lib.hid hok2
  obtain ⟨b4, o4, rfl, hx4⟩ := hrd (by simp)
  have hrd4 := hrd
  have k0 : w4.cell? ⟨b4, o4, none⟩ = some (.string s0) := hx4 0 _ rfl
  have k1 : w4.cell? ⟨b4, o4 + 1, none⟩ = some (.string s1) := hx4 1 _ rfl
  have hn2 : (F.1.length : Int) = 2 := by omega
  have HY := Lib.hid hy
  clear hd hx hF2 hok2 hrd hx4 HSM HOK hn2
  generalize F.1.length = N at hy hyI HO4 HY ⊢
  have hy0 : (0 : Int) < (N : Int) := by omega
  have hy0N : 0 < N := by omega
  have hy1N : 1 < N := by omega
  have hy1 : (1 : Int) < (N : Int) := by omega
  clear hy
  go_wp2_with fail
  refine HD.out.mono ?_
  rintro e w6 ⟨rfl, rfl⟩
  rw [HD2.out]
  have S0 : Rd w4 (some ⟨b4, o4, none⟩) [.string s0, .string s1] := hrd4
  have hb49 : b4 ≠ z9.heap.size := by have := own_blk HO4.out b4 rfl; omega
  have g8 : w4.cell? ⟨z9.heap.size, 8, none⟩ = some (.string ⟨#[]⟩) := HB4.out.cell (i := 8) (by simp)
  have g9 : w4.cell? ⟨z9.heap.size, 9, none⟩ = some (.string ⟨#[]⟩) := HB4.out.cell (i := 9) (by simp)
  have gf8 := HB4.out.frozen 8
  have gf9 := HB4.out.frozen 9
  go_wp2_with fail
  refine rg_startS (fun W => Rd W (some ⟨b4, o4, none⟩) [.string s0, .string s1]) (by kernel_rfl) (S0.ext ((Ext.refl w4).drew)) (fun hS0 => ?_)
  (refine rg_take (v := ?_) 0 rfl (by kernel_rfl) (by kernel_rfl) (by kernel_rfl) (fun _ _ _ h => h) (by rfl) (by assumption) (fun W hW => ?_) ?_; rotate_left; (focus (go_simp; try with_reducible rfl)); (try simp only [List.setIfInBounds_toArray, List.set_cons_succ, List.set_cons_zero]))
  (refine rg_take (v := ?_) 1 rfl (by kernel_rfl) (by kernel_rfl) (by kernel_rfl) (fun _ _ _ h => h) (by rfl) (by assumption) (fun W hW => ?_) ?_; rotate_left; (focus (go_simp; try with_reducible rfl)); (try simp only [List.setIfInBounds_toArray, List.set_cons_succ, List.set_cons_zero]))
  (refine rg_take (v := ?_) 2 rfl (by kernel_rfl) (by kernel_rfl) (by kernel_rfl) (fun _ _ _ h => h) (by rfl) (by assumption) (fun W hW => ?_) ?_; rotate_left; (focus (have j0 := (rd_two hW).1; go_simp; try with_reducible rfl)); (try simp only [List.setIfInBounds_toArray, List.set_cons_succ, List.set_cons_zero]))
  (refine rg_take (v := ?_) 3 rfl (by kernel_rfl) (by kernel_rfl) (by kernel_rfl) (fun _ _ _ h => h) (by rfl) (by assumption) (fun W hW => ?_) ?_; rotate_left; (focus (go_simp; try with_reducible rfl)); (try simp only [List.setIfInBounds_toArray, List.set_cons_succ, List.set_cons_zero]))
  (refine rg_take (v := ?_) 4 rfl (by kernel_rfl) (by kernel_rfl) (by kernel_rfl) (fun _ _ _ h => h) (by rfl) (by assumption) (fun W hW => ?_) ?_; rotate_left; (focus (go_simp; try with_reducible rfl)); (try simp only [List.setIfInBounds_toArray, List.set_cons_succ, List.set_cons_zero]))
  (refine rg_take (v := ?_) 5 rfl (by kernel_rfl) (by kernel_rfl) (by kernel_rfl) (fun _ _ _ h => h) (by rfl) (by assumption) (fun W hW => ?_) ?_; rotate_left; (focus (have j1 := (rd_two hW).2; go_simp; try with_reducible rfl)); (try simp only [List.setIfInBounds_toArray, List.set_cons_succ, List.set_cons_zero]))
  (refine rg_take (v := ?_) 6 rfl (by kernel_rfl) (by kernel_rfl) (by kernel_rfl) (fun _ _ _ h => h) (by rfl) (by assumption) (fun W hW => ?_) ?_; rotate_left; (focus (go_simp; try with_reducible rfl)); (try simp only [List.setIfInBounds_toArray, List.set_cons_succ, List.set_cons_zero]))
  (refine rg_one 7 (by kernel_rfl) rfl (by rfl) (fun K hK => ?_); go_simp)
  have S1 := hS0.grown (grown_one (w := w4.drew) (b := z9.heap.size) (i := 8) (u := .string s0)) (fun a ha => by injection ha with ha; subst ha; exact hb49)
  refine hK _ _ S1 (fun _ => ?_)
  clear hK K
  try simp only [List.setIfInBounds_toArray, List.set_cons_succ, List.set_cons_zero]
  have BS1 := HB4.out.drew.set 8 (.string s0)
  have g9' := BS1.cell (i := 9) (by simp)
  have gf9' := BS1.frozen 9
  (refine rg_take (v := ?_) 8 rfl (by kernel_rfl) (by kernel_rfl) (by kernel_rfl) (fun _ _ _ h => h) (by rfl) (by assumption) (fun W hW => ?_) ?_; rotate_left; (focus (go_simp; try with_reducible rfl)); (try simp only [List.setIfInBounds_toArray, List.set_cons_succ, List.set_cons_zero]))
  (refine rg_one 9 (by kernel_rfl) rfl (by rfl) (fun K hK => ?_); go_simp)
  have S2 := S1.grown (grown_one (w := w4.drew.setCell ⟨z9.heap.size, 8, none⟩ (.string s0)) (b := z9.heap.size) (i := 9) (u := .string s1)) (fun a ha => by injection ha with ha; subst ha; exact hb49)
  refine hK _ _ S2 (fun _ => ?_)
  clear hK K
  try simp only [List.setIfInBounds_toArray, List.set_cons_succ, List.set_cons_zero]
  refine rg_done (by kernel_rfl) ?_
  have HBS := Lib.hid ((((HB4.out.set 8 (.string s0)).set 9 (.string s1)).drew.of_eq rfl : Blk ((w4.setCell ⟨z9.heap.size, 8, none⟩ (.string s0)).setCell ⟨z9.heap.size, 9, none⟩ (.string s1)).drew z9.heap.size 57 [.int .i64 (m1 : Int), .int .i64 (m2 : Int), .int .i64 (m3 : Int), .int .i64 (m4 : Int), .int .i64 (m5 : Int), .int .i64 (m6 : Int), .int .i64 (m7 : Int), .int .i64 (m8 : Int), .string s0, .string s1]))
  have HXS := Lib.hid ((HXR.out.far (p := ⟨z9.heap.size, 8, none⟩) (by dsimp only; omega) (.string s0)).far (p := ⟨z9.heap.size, 9, none⟩) (by dsimp only; omega) (.string s1)).drew
  have HES := Lib.hid ((HEW.out.set (p := ⟨z9.heap.size, 8, none⟩) (by dsimp only; omega) (.string s0)).set (p := ⟨z9.heap.size, 9, none⟩) (by dsimp only; omega) (.string s1)).drew
  clear c0 c1 c2 c3 c4 c5 c6 c7 c8 c9 f0 f1 f2 f3 f4 f5 f6 f7 f8 f9 S0 S1 S2 hS0 BS1 g9' gf9' g8 g9 gf8 gf9 HB4 HXR HEW HO4 k0 k1 hrd4
  generalize hgw : ((w4.setCell ⟨z9.heap.size, 8, none⟩ (.string s0)).setCell ⟨z9.heap.size, 9, none⟩ (.string s1)).drew = w5 at HBS HXS HES ⊢
  clear hgw
  have x0 : w5.cell? ⟨z9.heap.size, 0, none⟩ = some (.int .i64 (m1 : Int)) := HBS.out.cell (i := 0) (by simp)
  have x1 : w5.cell? ⟨z9.heap.size, 1, none⟩ = some (.int .i64 (m2 : Int)) := HBS.out.cell (i := 1) (by simp)
  have x2 : w5.cell? ⟨z9.heap.size, 2, none⟩ = some (.int .i64 (m3 : Int)) := HBS.out.cell (i := 2) (by simp)
  have x3 : w5.cell? ⟨z9.heap.size, 3, none⟩ = some (.int .i64 (m4 : Int)) := HBS.out.cell (i := 3) (by simp)
  have x4 : w5.cell? ⟨z9.heap.size, 4, none⟩ = some (.int .i64 (m5 : Int)) := HBS.out.cell (i := 4) (by simp)
  have x5 : w5.cell? ⟨z9.heap.size, 5, none⟩ = some (.int .i64 (m6 : Int)) := HBS.out.cell (i := 5) (by simp)
  have x6 : w5.cell? ⟨z9.heap.size, 6, none⟩ = some (.int .i64 (m7 : Int)) := HBS.out.cell (i := 6) (by simp)
  have x7 : w5.cell? ⟨z9.heap.size, 7, none⟩ = some (.int .i64 (m8 : Int)) := HBS.out.cell (i := 7) (by simp)
  have x8 : w5.cell? ⟨z9.heap.size, 8, none⟩ = some (.string s0) := HBS.out.cell (i := 8) (by simp)
  have x9 : w5.cell? ⟨z9.heap.size, 9, none⟩ = some (.string s1) := HBS.out.cell (i := 9) (by simp)
  go_wp2_with fail
  refine (impl_RecordOK (m1 : Int) m2 m3 m4 m5 m6 m7 m8 s0 s1 w5 (by omega) (by omega)).mono ?_
  rintro e w7 ⟨rfl, E7⟩
  have hOKe : rrOK d = recB (m1 : Int) m2 m3 m4 m5 m6 m7 m8 s0 s1 := by rw [HOK2.out, HM1.out, HM2.out, HM3.out, HM4.out, HM5.out, HM6.out, HM7.out, HM8.out]
  have HX7 := Lib.hid (HXS.out.ext E7)
  have HB7 := Lib.hid (HBS.out.ext E7)
  have HE7 := Lib.hid (HES.out.trans E7)
  clear E7 HXS HBS HES x0 x1 x2 x3 x4 x5 x6 x7 x8 x9
  rcases hpb : recB (m1 : Int) m2 m3 m4 m5 m6 m7 m8 s0 s1 with _ | _
  · have HV := Lib.hid (HVF.out (by rw [hOKe, hpb]))
    clear hpb hOKe
    have c0 : w7.cell? ⟨w.heap.size, 0, none⟩ = some (.int .i64 0) := HX7.out.cell (i := 0) (by simp)
    have c1 : w7.cell? ⟨w.heap.size, 1, none⟩ = some (.int .i64 0) := HX7.out.cell (i := 1) (by simp)
    have c2 : w7.cell? ⟨w.heap.size, 2, none⟩ = some (.int .i64 0) := HX7.out.cell (i := 2) (by simp)
    have c3 : w7.cell? ⟨w.heap.size, 3, none⟩ = some (.int .i64 0) := HX7.out.cell (i := 3) (by simp)
    have c4 : w7.cell? ⟨w.heap.size, 4, none⟩ = some (.int .i64 0) := HX7.out.cell (i := 4) (by simp)
    have c5 : w7.cell? ⟨w.heap.size, 5, none⟩ = some (.int .i64 0) := HX7.out.cell (i := 5) (by simp)
    have c6 : w7.cell? ⟨w.heap.size, 6, none⟩ = some (.int .i64 0) := HX7.out.cell (i := 6) (by simp)
    have c7 : w7.cell? ⟨w.heap.size, 7, none⟩ = some (.int .i64 0) := HX7.out.cell (i := 7) (by simp)
    have c8 : w7.cell? ⟨w.heap.size, 8, none⟩ = some (.string ByteArray.empty) := HX7.out.cell (i := 8) (by simp)
    have c9 : w7.cell? ⟨w.heap.size, 9, none⟩ = some (.string ByteArray.empty) := HX7.out.cell (i := 9) (by simp)
    have f0 := HX7.out.frozen 0
    have f1 := HX7.out.frozen 1
    have f2 := HX7.out.frozen 2
    have f3 := HX7.out.frozen 3
    have f4 := HX7.out.frozen 4
    have f5 := HX7.out.frozen 5
    have f6 := HX7.out.frozen 6
    have f7 := HX7.out.frozen 7
    have f8 := HX7.out.frozen 8
    have f9 := HX7.out.frozen 9
    go_wp2_with fail
    refine bodyPost_ret (v := .tuple #[.agg #[.int .i64 0, .int .i64 0, .int .i64 0, .int .i64 0, .int .i64 0, .int .i64 0, .int .i64 0, .int .i64 0, .string ByteArray.empty, .string ByteArray.empty], .int .i64 3]) (by simp [results, Try.results50, go_sem, c0, c1, c2, c3, c4, c5, c6, c7, c8, c9]; try rfl) rfl ?_
    exact .none HV.out.1 HV.out.2 (((((((((((HE7.out.set (Nat.le_refl _) _).set (Nat.le_refl _) _).set (Nat.le_refl _) _).set (Nat.le_refl _) _).set (Nat.le_refl _) _).set (Nat.le_refl _) _).set (Nat.le_refl _) _).set (Nat.le_refl _) _).set (Nat.le_refl _) _).set (Nat.le_refl _) _))
  · have HV := Lib.hid (HVG.out (by rw [hOKe, hpb]))
    clear hpb hOKe
    have c0 : w7.cell? ⟨w.heap.size, 0, none⟩ = some (.int .i64 0) := HX7.out.cell (i := 0) (by simp)
    have c1 : w7.cell? ⟨w.heap.size, 1, none⟩ = some (.int .i64 0) := HX7.out.cell (i := 1) (by simp)
    have c2 : w7.cell? ⟨w.heap.size, 2, none⟩ = some (.int .i64 0) := HX7.out.cell (i := 2) (by simp)
    have c3 : w7.cell? ⟨w.heap.size, 3, none⟩ = some (.int .i64 0) := HX7.out.cell (i := 3) (by simp)
    have c4 : w7.cell? ⟨w.heap.size, 4, none⟩ = some (.int .i64 0) := HX7.out.cell (i := 4) (by simp)
    have c5 : w7.cell? ⟨w.heap.size, 5, none⟩ = some (.int .i64 0) := HX7.out.cell (i := 5) (by simp)
    have c6 : w7.cell? ⟨w.heap.size, 6, none⟩ = some (.int .i64 0) := HX7.out.cell (i := 6) (by simp)
    have c7 : w7.cell? ⟨w.heap.size, 7, none⟩ = some (.int .i64 0) := HX7.out.cell (i := 7) (by simp)
    have c8 : w7.cell? ⟨w.heap.size, 8, none⟩ = some (.string ByteArray.empty) := HX7.out.cell (i := 8) (by simp)
    have c9 : w7.cell? ⟨w.heap.size, 9, none⟩ = some (.string ByteArray.empty) := HX7.out.cell (i := 9) (by simp)
    have f0 := HX7.out.frozen 0
    have f1 := HX7.out.frozen 1
    have f2 := HX7.out.frozen 2
    have f3 := HX7.out.frozen 3
    have f4 := HX7.out.frozen 4
    have f5 := HX7.out.frozen 5
    have f6 := HX7.out.frozen 6
    have f7 := HX7.out.frozen 7
    have f8 := HX7.out.frozen 8
    have f9 := HX7.out.frozen 9
    have x0 : w7.cell? ⟨z9.heap.size, 0, none⟩ = some (.int .i64 (m1 : Int)) := HB7.out.cell (i := 0) (by simp)
    have x1 : w7.cell? ⟨z9.heap.size, 1, none⟩ = some (.int .i64 (m2 : Int)) := HB7.out.cell (i := 1) (by simp)
    have x2 : w7.cell? ⟨z9.heap.size, 2, none⟩ = some (.int .i64 (m3 : Int)) := HB7.out.cell (i := 2) (by simp)
    have x3 : w7.cell? ⟨z9.heap.size, 3, none⟩ = some (.int .i64 (m4 : Int)) := HB7.out.cell (i := 3) (by simp)
    have x4 : w7.cell? ⟨z9.heap.size, 4, none⟩ = some (.int .i64 (m5 : Int)) := HB7.out.cell (i := 4) (by simp)
    have x5 : w7.cell? ⟨z9.heap.size, 5, none⟩ = some (.int .i64 (m6 : Int)) := HB7.out.cell (i := 5) (by simp)
    have x6 : w7.cell? ⟨z9.heap.size, 6, none⟩ = some (.int .i64 (m7 : Int)) := HB7.out.cell (i := 6) (by simp)
    have x7 : w7.cell? ⟨z9.heap.size, 7, none⟩ = some (.int .i64 (m8 : Int)) := HB7.out.cell (i := 7) (by simp)
    have x8 : w7.cell? ⟨z9.heap.size, 8, none⟩ = some (.string s0) := HB7.out.cell (i := 8) (by simp)
    have x9 : w7.cell? ⟨z9.heap.size, 9, none⟩ = some (.string s1) := HB7.out.cell (i := 9) (by simp)
    go_wp2_with fail
    refine bodyPost_ret (v := .tuple #[.agg #[.int .i64 (m1 : Int), .int .i64 (m2 : Int), .int .i64 (m3 : Int), .int .i64 (m4 : Int), .int .i64 (m5 : Int), .int .i64 (m6 : Int), .int .i64 (m7 : Int), .int .i64 (m8 : Int), .string s0, .string s1], .int .i64 0]) (by simp [results, Try.results50, go_sem, c0, c1, c2, c3, c4, c5, c6, c7, c8, c9]; try rfl) rfl ?_
    have h := fun W E => HSO.out W HV.out.1 HV.out.2 E
    rw [HM1.out, HM2.out, HM3.out, HM4.out, HM5.out, HM6.out, HM7.out, HM8.out] at h
    exact h _ (((((((((((HE7.out.set (Nat.le_refl _) _).set (Nat.le_refl _) _).set (Nat.le_refl _) _).set (Nat.le_refl _) _).set (Nat.le_refl _) _).set (Nat.le_refl _) _).set (Nat.le_refl _) _).set (Nat.le_refl _) _).set (Nat.le_refl _) _).set (Nat.le_refl _) _))
end Go.Proofs.Yteaefjicpefgnaa
