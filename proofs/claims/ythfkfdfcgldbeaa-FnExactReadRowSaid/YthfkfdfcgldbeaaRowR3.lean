/- The walk of the reference's ReadRow (printed by gen_rowr3.py). -/
import Derived.Test.YthfkfdfcgldbeaaRowR2
namespace Go.Proofs.Ythfkfdfcgldbeaa
open Go.RowKit Go.Deep
set_option linter.unusedVariables false
set_option maxRecDepth 100000
def rowZ : CRow := ⟨0, ⟨0, 0, ⟨#[]⟩⟩, ⟨0, 0, ⟨#[]⟩⟩⟩
/-- what ReadRow answers -/
def rwV (l : List UInt8) : Int × CRow × Int := if 65536 < l.length then (0, rowZ, 2) else match rrO (keyO l) with
  | none => (0, rowZ, 3)
  | some (t, r) => (t, r, 0)
def RwPost (w : World) (l : List UInt8) (e : Ending) (w' : World) : Prop :=
  e = .returned (.tuple #[.int .i64 (rwV l).1, CRow.ag (rwV l).2.1, .int .i64 (rwV l).2.2]) ∧ Ext w w'
theorem RwPost.of {w w' : World} {l : List UInt8} {t c : Int} {r : CRow} (h : rwV l = (t, r, c)) (E : Ext w w') : RwPost w l (.returned (.tuple #[.int .i64 t, CRow.ag r, .int .i64 c])) w' := by
  unfold RwPost; rw [h]; exact ⟨rfl, E⟩
theorem rw_long {l : List UInt8} (h : 65536 < l.length) : rwV l = (0, rowZ, 2) := by unfold rwV; rw [if_pos h]
theorem rw_none {l : List UInt8} (h : ¬ 65536 < l.length) (h2 : rrO (keyO l) = none) : rwV l = (0, rowZ, 3) := by unfold rwV; rw [if_neg h, h2]
theorem rw_some {l : List UInt8} {t : Int} {r : CRow} (h : ¬ 65536 < l.length) (h2 : rrO (keyO l) = some (t, r)) : rwV l = (t, r, 0) := by unfold rwV; rw [if_neg h, h2]
attribute [irreducible] rwV RwPost
set_option maxHeartbeats 4000000 in
theorem spec_ReadRow (A : Option Addr) (n cp : Nat) (l : List UInt8) (w : World) (hl : l.length = n) (hr : Rd w A (l.map fun c => Value.int .u8 (c.toNat : Int))) :
    Calls Try.prog 21 #[.slice A n cp] w (RwPost w l) := by
  have HX := Lib.hid (Blk.new w 32 [.int .i64 0, .int .i64 0, .int .i64 0, .string ⟨#[]⟩, .int .i64 0, .int .i64 0, .string ⟨#[]⟩])
  have HE := Lib.hid (show Ext w (w.alloc (.cells #[.int .i64 0, .int .i64 0, .int .i64 0, .string ⟨#[]⟩, .int .i64 0, .int .i64 0, .string ⟨#[]⟩] 32)) from (by repeat (first | exact Ext.refl _ | assumption | refine Ext.alloc ?_ _ | refine Ext.drewN ?_ _ | refine Ext.drew ?_ | refine Ext.set ?_ (by dsimp only; omega) _ | refine Ext.trans ?_ (by assumption))))
  by_cases h1 : 65536 < n
  · have HV := Lib.hid (rw_long (l := l) (by omega))
    have h1I : (65536 : Int) < (n : Int) := by omega
    clear hl hr
    obtain ⟨p0, p1, p2, p3, p4, p5, p6⟩ := HX.out.cells7
    have f0 := HX.out.frozen 0
    have f1 := HX.out.frozen 1
    have f2 := HX.out.frozen 2
    have f3 := HX.out.frozen 3
    have f4 := HX.out.frozen 4
    have f5 := HX.out.frozen 5
    have f6 := HX.out.frozen 6
    go_enter Try.func21, Try.ntmps21
    go_wp2_with fail
    refine bodyPost_ret (v := .tuple #[.int .i64 0, .agg #[.int .i64 0, .int .i64 0, .int .i64 0, .string ⟨#[]⟩, .int .i64 0, .int .i64 0, .string ⟨#[]⟩], .int .i64 2]) (by simp [results, Try.results21, go_sem, p0, p1, p2, p3, p4, p5, p6]; try rfl) rfl ?_
    exact RwPost.of (t := 0) (r := rowZ) (c := 2) HV.out HE.out
  have h1I : ¬ (65536 : Int) < (n : Int) := by omega
  have h1' : ¬ 65536 < l.length := by omega
  have hcv := run_text (P := Try.prog) (src := 27) (dst := 9) Try.underlying27 Try.underlying5 Try.underlying9 (w.alloc (.cells #[.int .i64 0, .int .i64 0, .int .i64 0, .string ⟨#[]⟩, .int .i64 0, .int .i64 0, .string ⟨#[]⟩] 32)) A n cp l hl (hr.ext HE.out)
  have hK := spec_l07Read (⟨l.toArray⟩ : ByteArray) (w.alloc (.cells #[.int .i64 0, .int .i64 0, .int .i64 0, .string ⟨#[]⟩, .int .i64 0, .int .i64 0, .string ⟨#[]⟩] 32)) (by show l.toArray.size ≤ 65536; simp; omega)
  have e2 : (⟨l.toArray⟩ : ByteArray).data.toList = l := by simp
  rw [e2] at hK
  generalize (⟨l.toArray⟩ : ByteArray) = s at hcv hK
  clear e2 h1
  unfold R7Post at hK
  rcases ho : rrO (keyO l) with _ | x
  · have HV := Lib.hid (rw_none h1' ho)
    rw [ho] at hK
    have HK := Lib.hid hK
    clear hl hK h1' hr ho
    go_enter Try.func21, Try.ntmps21
    go_wp2_with fail
    refine HK.out.mono ?_
    rintro e w1 ⟨⟨t, r, rfl, -⟩, E1⟩
    have HX1 := Lib.hid (HX.out.ext E1)
    have hlt := HX1.out.lt
    have HE1 := Lib.hid (HE.out.trans E1)
    clear HX HE E1
    obtain ⟨q0, q1, q2, q3, q4, q5, q6⟩ := HX1.out.cells7
    have g0 := HX1.out.frozen 0
    have g1 := HX1.out.frozen 1
    have g2 := HX1.out.frozen 2
    have g3 := HX1.out.frozen 3
    have g4 := HX1.out.frozen 4
    have g5 := HX1.out.frozen 5
    have g6 := HX1.out.frozen 6
    unfold CRow.ag
    go_wp2_with fail
    have hB : Blk ((((((((w1.setCell ⟨w.heap.size, 0, none⟩ (.int .i64 0)).setCell ⟨w.heap.size, 1, none⟩ (.int .i64 0)).setCell ⟨w.heap.size, 2, none⟩ (.int .i64 0)).setCell ⟨w.heap.size, 3, none⟩ (.string ⟨#[]⟩)).setCell ⟨w.heap.size, 4, none⟩ (.int .i64 0)).setCell ⟨w.heap.size, 5, none⟩ (.int .i64 0)).setCell ⟨w.heap.size, 6, none⟩ (.string ⟨#[]⟩)).alloc (.cells #[.int .i64 r.id, .int .i64 r.p.a, .int .i64 r.p.b, .string r.p.c, .int .i64 r.q.a, .int .i64 r.q.b, .string r.q.c] 32)) w.heap.size 32 [.int .i64 0, .int .i64 0, .int .i64 0, .string ⟨#[]⟩, .int .i64 0, .int .i64 0, .string ⟨#[]⟩] := (((((((HX1.out.set 0 (.int .i64 0)).set 1 (.int .i64 0)).set 2 (.int .i64 0)).set 3 (.string ⟨#[]⟩)).set 4 (.int .i64 0)).set 5 (.int .i64 0)).set 6 (.string ⟨#[]⟩)).alloc _
    have hE : Ext w ((((((((w1.setCell ⟨w.heap.size, 0, none⟩ (.int .i64 0)).setCell ⟨w.heap.size, 1, none⟩ (.int .i64 0)).setCell ⟨w.heap.size, 2, none⟩ (.int .i64 0)).setCell ⟨w.heap.size, 3, none⟩ (.string ⟨#[]⟩)).setCell ⟨w.heap.size, 4, none⟩ (.int .i64 0)).setCell ⟨w.heap.size, 5, none⟩ (.int .i64 0)).setCell ⟨w.heap.size, 6, none⟩ (.string ⟨#[]⟩)).alloc (.cells #[.int .i64 r.id, .int .i64 r.p.a, .int .i64 r.p.b, .string r.p.c, .int .i64 r.q.a, .int .i64 r.q.b, .string r.q.c] 32)) := ((Ext.set (Ext.set (Ext.set (Ext.set (Ext.set (Ext.set (Ext.set HE1.out (Nat.le_refl _) _) (Nat.le_refl _) _) (Nat.le_refl _) _) (Nat.le_refl _) _) (Nat.le_refl _) _) (Nat.le_refl _) _) (Nat.le_refl _) _)).alloc _
    generalize (((((((w1.setCell ⟨w.heap.size, 0, none⟩ (.int .i64 0)).setCell ⟨w.heap.size, 1, none⟩ (.int .i64 0)).setCell ⟨w.heap.size, 2, none⟩ (.int .i64 0)).setCell ⟨w.heap.size, 3, none⟩ (.string ⟨#[]⟩)).setCell ⟨w.heap.size, 4, none⟩ (.int .i64 0)).setCell ⟨w.heap.size, 5, none⟩ (.int .i64 0)).setCell ⟨w.heap.size, 6, none⟩ (.string ⟨#[]⟩)).alloc (.cells #[.int .i64 r.id, .int .i64 r.p.a, .int .i64 r.p.b, .string r.p.c, .int .i64 r.q.a, .int .i64 r.q.b, .string r.q.c] 32) = w9 at hB hE ⊢
    obtain ⟨p0, p1, p2, p3, p4, p5, p6⟩ := hB.cells7
    refine bodyPost_ret (v := .tuple #[.int .i64 0, .agg #[.int .i64 0, .int .i64 0, .int .i64 0, .string ⟨#[]⟩, .int .i64 0, .int .i64 0, .string ⟨#[]⟩], .int .i64 3]) (by simp [results, Try.results21, go_sem, p0, p1, p2, p3, p4, p5, p6]; try rfl) rfl ?_
    exact RwPost.of (t := 0) (r := rowZ) (c := 3) HV.out hE
  · obtain ⟨t, r⟩ := x
    have HV := Lib.hid (rw_some h1' ho)
    rw [ho] at hK
    have HK := Lib.hid hK
    clear hl hK h1' hr ho
    go_enter Try.func21, Try.ntmps21
    go_wp2_with fail
    refine HK.out.mono ?_
    rintro e w1 ⟨⟨t', r', rfl, hx⟩, E1⟩
    have hx := hx _ rfl
    injection hx with hx1 hx2
    subst hx1; subst hx2
    have HX1 := Lib.hid (HX.out.ext E1)
    have hlt := HX1.out.lt
    have hne : w1.heap.size ≠ w.heap.size := by omega
    have HY := Lib.hid (Blk.new w1 32 [.int .i64 r.id, .int .i64 r.p.a, .int .i64 r.p.b, .string r.p.c, .int .i64 r.q.a, .int .i64 r.q.b, .string r.q.c])
    have HX2 := Lib.hid (HX1.out.alloc (.cells #[.int .i64 r.id, .int .i64 r.p.a, .int .i64 r.p.b, .string r.p.c, .int .i64 r.q.a, .int .i64 r.q.b, .string r.q.c] 32))
    have HE2 := Lib.hid ((HE.out.trans E1).alloc (.cells #[.int .i64 r.id, .int .i64 r.p.a, .int .i64 r.p.b, .string r.p.c, .int .i64 r.q.a, .int .i64 r.q.b, .string r.q.c] 32))
    clear HX HE E1 HK
    unfold CRow.ag
    go_wp2_with fail
    generalize w1.alloc (.cells #[.int .i64 r.id, .int .i64 r.p.a, .int .i64 r.p.b, .string r.p.c, .int .i64 r.q.a, .int .i64 r.q.b, .string r.q.c] 32) = w3 at HY HX2 HE2 ⊢
    generalize w1.heap.size = y at HY hne ⊢
    refine rg_startS (fun W => Blk W y 32 [.int .i64 r.id, .int .i64 r.p.a, .int .i64 r.p.b, .string r.p.c, .int .i64 r.q.a, .int .i64 r.q.b, .string r.q.c] ∧ Ext w W) (by kernel_rfl) ⟨HY.out.drew, HE2.out.drew⟩ (fun hS0 => ?_)
    have HX3 := Lib.hid HX2.out.drew
    generalize w3.drew = w4 at HX3 hS0 ⊢
    clear HX2 HY HE2
    (refine rg_take (v := ?_) 0 rfl (by kernel_rfl) (by kernel_rfl) (by kernel_rfl) (fun _ _ _ h => h) (by rfl) (by assumption) (fun W hW => ?_) ?_; rotate_left; (focus (go_simp; try with_reducible rfl)); (try simp only [List.setIfInBounds_toArray, List.set_cons_succ, List.set_cons_zero]))
    (refine rg_take (v := ?_) 1 rfl (by kernel_rfl) (by kernel_rfl) (by kernel_rfl) (fun _ _ _ h => h) (by rfl) (by assumption) (fun W hW => ?_) ?_; rotate_left; (focus (obtain ⟨p0, p1, p2, p3, p4, p5, p6⟩ := hW.1.cells7; go_simp; try with_reducible rfl)); (try simp only [List.setIfInBounds_toArray, List.set_cons_succ, List.set_cons_zero]))
    (refine rg_take (v := ?_) 2 rfl (by kernel_rfl) (by kernel_rfl) (by kernel_rfl) (fun _ _ _ h => h) (by rfl) (by assumption) (fun W hW => ?_) ?_; rotate_left; (focus (go_simp; try with_reducible rfl)); (try simp only [List.setIfInBounds_toArray, List.set_cons_succ, List.set_cons_zero]))
    obtain ⟨p0, p1, p2, p3, p4, p5, p6⟩ := HX3.out.cells7
    have f0 := HX3.out.frozen 0
    have f1 := HX3.out.frozen 1
    have f2 := HX3.out.frozen 2
    have f3 := HX3.out.frozen 3
    have f4 := HX3.out.frozen 4
    have f5 := HX3.out.frozen 5
    have f6 := HX3.out.frozen 6
    (refine rg_one 3 (by kernel_rfl) rfl (by rfl) (fun K hK => ?_); go_simp)
    refine hK _ _ ⟨(Blk.far (Blk.far (Blk.far (Blk.far (Blk.far (Blk.far (Blk.far hS0.1 hne _) hne _) hne _) hne _) hne _) hne _) hne _), (Ext.set (Ext.set (Ext.set (Ext.set (Ext.set (Ext.set (Ext.set hS0.2 (Nat.le_refl _) _) (Nat.le_refl _) _) (Nat.le_refl _) _) (Nat.le_refl _) _) (Nat.le_refl _) _) (Nat.le_refl _) _) (Nat.le_refl _) _)⟩ (fun hS6 => ?_)
    clear hK K
    try simp only [List.setIfInBounds_toArray, List.set_cons_succ, List.set_cons_zero]
    (refine rg_take (v := ?_) 4 rfl (by kernel_rfl) (by kernel_rfl) (by kernel_rfl) (fun _ _ _ h => h) (by rfl) (by assumption) (fun W hW => ?_) ?_; rotate_left; (focus (go_simp; try with_reducible rfl)); (try simp only [List.setIfInBounds_toArray, List.set_cons_succ, List.set_cons_zero]))
    refine rg_done (by kernel_rfl) ?_
    go_wp2_with fail
    refine bodyPost_ret (v := .tuple #[.int .i64 t, .agg #[.int .i64 r.id, .int .i64 r.p.a, .int .i64 r.p.b, .string r.p.c, .int .i64 r.q.a, .int .i64 r.q.b, .string r.q.c], .int .i64 0]) (by simp [results, Try.results21, go_sem, p0, p1, p2, p3, p4, p5, p6]; try rfl) rfl ?_
    exact RwPost.of (t := t) (r := r) (c := 0) HV.out hS6.2
end Go.Proofs.Ythfkfdfcgldbeaa
