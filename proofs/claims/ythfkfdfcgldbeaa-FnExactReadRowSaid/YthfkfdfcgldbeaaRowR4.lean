/- The walk of the program's ReadRow (printed by gen_rowr4.py). -/
import Derived.Test.YthfkfdfcgldbeaaRowR3
namespace Go.Proofs.Ythfkfdfcgldbeaa
open Go.RowKit Go.Deep
set_option linter.unusedVariables false
set_option maxRecDepth 100000
set_option maxHeartbeats 4000000 in
theorem impl_ReadRow (A : Option Addr) (n cp : Nat) (l : List UInt8) (w : World) (hl : l.length = n) (hc : n ≤ cp) (hm : cp ≤ maxLen) (hr : Rd w A (l.map fun c => Value.int .u8 (c.toNat : Int))) :
    Calls Try.prog 23 #[.slice A n cp] w (RwPost w l) := by
  have HX := Lib.hid (Blk.new w 32 [.int .i64 0, .int .i64 0, .int .i64 0, .string ⟨#[]⟩, .int .i64 0, .int .i64 0, .string ⟨#[]⟩])
  have HE := Lib.hid (show Ext w (w.alloc (.cells #[.int .i64 0, .int .i64 0, .int .i64 0, .string ⟨#[]⟩, .int .i64 0, .int .i64 0, .string ⟨#[]⟩] 32)) from (by repeat (first | exact Ext.refl _ | assumption | refine Ext.alloc ?_ _ | refine Ext.drewN ?_ _ | refine Ext.drew ?_ | refine Ext.set ?_ (by dsimp only; omega) _ | refine Ext.trans ?_ (by assumption))))
  by_cases h1 : 65536 < n
  · have HV := Lib.hid (rw_long (l := l) (by omega))
    have h1I : (65536 : Int) < (n : Int) := by omega
    clear hl hr hc hm
    obtain ⟨p0, p1, p2, p3, p4, p5, p6⟩ := HX.out.cells7
    have f0 := HX.out.frozen 0
    have f1 := HX.out.frozen 1
    have f2 := HX.out.frozen 2
    have f3 := HX.out.frozen 3
    have f4 := HX.out.frozen 4
    have f5 := HX.out.frozen 5
    have f6 := HX.out.frozen 6
    go_enter Try.func23, Try.ntmps23
    go_wp2_with fail
    refine bodyPost_ret (v := .tuple #[.int .i64 0, .agg #[.int .i64 0, .int .i64 0, .int .i64 0, .string ⟨#[]⟩, .int .i64 0, .int .i64 0, .string ⟨#[]⟩], .int .i64 2]) (by simp [results, Try.results23, go_sem, p0, p1, p2, p3, p4, p5, p6]; try rfl) rfl ?_
    exact RwPost.of (t := 0) (r := rowZ) (c := 2) HV.out HE.out
  have h1I : ¬ (65536 : Int) < (n : Int) := by omega
  have h1' : ¬ 65536 < l.length := by omega
  have hK := impl_readKey A n cp l (w.alloc (.cells #[.int .i64 0, .int .i64 0, .int .i64 0, .string ⟨#[]⟩, .int .i64 0, .int .i64 0, .string ⟨#[]⟩] 32)) hl (by omega) hc hm (hr.ext HE.out)
  have hsm := fun xs h => kR_small l.length l xs h
  have h1s : l.length ≤ 65536 := by omega
  clear hc hm h1
  unfold KrPost at hK
  rcases ho : keyO l with _ | xs
  · have HV := Lib.hid (rw_none h1' (by rw [ho]; rfl))
    rw [ho] at hK
    have HK := Lib.hid hK
    clear hl hK h1' hr ho hsm h1s
    go_enter Try.func23, Try.ntmps23
    go_wp2_with fail
    refine HK.out.mono ?_
    rintro e w1 ⟨v, rfl, -, E1⟩
    have HX1 := Lib.hid (HX.out.ext E1)
    have HE1 := Lib.hid (HE.out.trans E1)
    clear HX HE E1 HK
    obtain ⟨p0, p1, p2, p3, p4, p5, p6⟩ := HX1.out.cells7
    have f0 := HX1.out.frozen 0
    have f1 := HX1.out.frozen 1
    have f2 := HX1.out.frozen 2
    have f3 := HX1.out.frozen 3
    have f4 := HX1.out.frozen 4
    have f5 := HX1.out.frozen 5
    have f6 := HX1.out.frozen 6
    go_wp2_with fail
    refine bodyPost_ret (v := .tuple #[.int .i64 0, .agg #[.int .i64 0, .int .i64 0, .int .i64 0, .string ⟨#[]⟩, .int .i64 0, .int .i64 0, .string ⟨#[]⟩], .int .i64 3]) (by simp [results, Try.results23, go_sem, p0, p1, p2, p3, p4, p5, p6]; try rfl) rfl ?_
    exact RwPost.of (t := 0) (r := rowZ) (c := 3) HV.out (Ext.set (Ext.set (Ext.set (Ext.set (Ext.set (Ext.set (Ext.set HE1.out (Nat.le_refl _) _) (Nat.le_refl _) _) (Nat.le_refl _) _) (Nat.le_refl _) _) (Nat.le_refl _) _) (Nat.le_refl _) _) (Nat.le_refl _) _)
  rw [ho] at hK
  by_cases h4 : xs.length = 4
  · obtain ⟨x0, x1, x2, x3, rfl⟩ := len_four h4
    have hsz : ∀ x ∈ [x0, x1, x2, x3], x.c.size ≤ maxLen := by
      intro x hx
      have h1 := hsm _ ho x hx
      unfold maxLen; omega
    have HS2 := Lib.hid (hsz x2 (by simp))
    have HS3 := Lib.hid (hsz x3 (by simp))
    have HK := Lib.hid hK
    have HO := Lib.hid ho
    have H1 := Lib.hid h1'
    clear hl hK ho hsm h4 hsz hr h1s h1'
    go_enter Try.func23, Try.ntmps23
    go_wp2_with fail
    refine HK.out.mono ?_
    rintro e w1 ⟨v, rfl, hv, E1⟩
    have O1 := hv _ rfl
    have HX1 := Lib.hid (HX.out.ext E1)
    have HE1 := Lib.hid (HE.out.trans E1)
    obtain ⟨g, cap, rfl, cs, hblk⟩ := four_vals O1
    have HB := Lib.hid hblk
    obtain ⟨c0, c1, c2, c3, c4, c5, c6, c7, c8, c9, c10, c11⟩ := hblk.cells12
    clear O1 E1 HK HX HE hblk hv
    have HF := Lib.hid (show isR x0 x1 x2 x3 = ((x0.a == 1) && (x1.a == 1) && inB x0.b 1 3 && rowB ⟨x1.b, x2, x3⟩) from rfl)
    rcases g0 : (x0.a == 1) with _ | _
    · have g0' : (x0.a != 1) = true := by unfold bne; rw [g0]; rfl
      have HV := Lib.hid (rw_none H1.out (by rw [HO.out]; unfold rrO; simp only [HF.out, g0, Bool.false_and]; rfl))
      obtain ⟨p0, p1, p2, p3, p4, p5, p6⟩ := HX1.out.cells7
      have f0 := HX1.out.frozen 0
      have f1 := HX1.out.frozen 1
      have f2 := HX1.out.frozen 2
      have f3 := HX1.out.frozen 3
      have f4 := HX1.out.frozen 4
      have f5 := HX1.out.frozen 5
      have f6 := HX1.out.frozen 6
      go_wp2_with fail
      refine bodyPost_ret (v := .tuple #[.int .i64 0, .agg #[.int .i64 0, .int .i64 0, .int .i64 0, .string ⟨#[]⟩, .int .i64 0, .int .i64 0, .string ⟨#[]⟩], .int .i64 3]) (by simp [results, Try.results23, go_sem, p0, p1, p2, p3, p4, p5, p6]; try rfl) rfl ?_
      exact RwPost.of (t := 0) (r := rowZ) (c := 3) HV.out (Ext.set (Ext.set (Ext.set (Ext.set (Ext.set (Ext.set (Ext.set HE1.out (Nat.le_refl _) _) (Nat.le_refl _) _) (Nat.le_refl _) _) (Nat.le_refl _) _) (Nat.le_refl _) _) (Nat.le_refl _) _) (Nat.le_refl _) _)
    have g0' : (x0.a != 1) = false := by unfold bne; rw [g0]; rfl
    rcases g1 : (x1.a == 1) with _ | _
    · have g1' : (x1.a != 1) = true := by unfold bne; rw [g1]; rfl
      have HV := Lib.hid (rw_none H1.out (by rw [HO.out]; unfold rrO; simp only [HF.out, g1, Bool.and_false, Bool.false_and]; rfl))
      obtain ⟨p0, p1, p2, p3, p4, p5, p6⟩ := HX1.out.cells7
      have f0 := HX1.out.frozen 0
      have f1 := HX1.out.frozen 1
      have f2 := HX1.out.frozen 2
      have f3 := HX1.out.frozen 3
      have f4 := HX1.out.frozen 4
      have f5 := HX1.out.frozen 5
      have f6 := HX1.out.frozen 6
      go_wp2_with fail
      refine bodyPost_ret (v := .tuple #[.int .i64 0, .agg #[.int .i64 0, .int .i64 0, .int .i64 0, .string ⟨#[]⟩, .int .i64 0, .int .i64 0, .string ⟨#[]⟩], .int .i64 3]) (by simp [results, Try.results23, go_sem, p0, p1, p2, p3, p4, p5, p6]; try rfl) rfl ?_
      exact RwPost.of (t := 0) (r := rowZ) (c := 3) HV.out (Ext.set (Ext.set (Ext.set (Ext.set (Ext.set (Ext.set (Ext.set HE1.out (Nat.le_refl _) _) (Nat.le_refl _) _) (Nat.le_refl _) _) (Nat.le_refl _) _) (Nat.le_refl _) _) (Nat.le_refl _) _) (Nat.le_refl _) _)
    have g1' : (x1.a != 1) = false := by unfold bne; rw [g1]; rfl
    have hgw : g ≠ w.heap.size := by
      intro e
      have h := HB.out
      rw [e] at h
      have h2 := h.symm.trans HX1.out
      simp at h2
    go_wp2_with fail
    refine rg_start (by kernel_rfl) (Ext.refl w1) (fun hE0 => ?_)
    (refine rg_take (v := ?_) 0 rfl (by kernel_rfl) (by kernel_rfl) (by kernel_rfl) (fun _ _ _ h => h) (by rfl) (by assumption) (fun W hW => ?_) ?_; rotate_left; (focus (go_simp; try with_reducible rfl)); (try simp only [List.setIfInBounds_toArray, List.set_cons_succ, List.set_cons_zero]))
    (refine rg_take (v := ?_) 1 rfl (by kernel_rfl) (by kernel_rfl) (by kernel_rfl) (fun _ _ _ h => h) (by rfl) (by assumption) (fun W hW => ?_) ?_; rotate_left; (focus (go_simp; try with_reducible rfl)); (try simp only [List.setIfInBounds_toArray, List.set_cons_succ, List.set_cons_zero]))
    (refine rg_take (v := ?_) 2 rfl (by kernel_rfl) (by kernel_rfl) (by kernel_rfl) (fun _ _ _ h => h) (by rfl) (by assumption) (fun W hW => ?_) ?_; rotate_left; (focus (go_simp; try with_reducible rfl)); (try simp only [List.setIfInBounds_toArray, List.set_cons_succ, List.set_cons_zero]))
    (refine rg_take (v := ?_) 3 rfl (by kernel_rfl) (by kernel_rfl) (by kernel_rfl) (fun _ _ _ h => h) (by rfl) (by assumption) (fun W hW => ?_) ?_; rotate_left; (focus (have k0 := hW.cell c1; go_simp; try with_reducible rfl)); (try simp only [List.setIfInBounds_toArray, List.set_cons_succ, List.set_cons_zero]))
    (refine rg_take (v := ?_) 4 rfl (by kernel_rfl) (by kernel_rfl) (by kernel_rfl) (fun _ _ _ h => h) (by rfl) (by assumption) (fun W hW => ?_) ?_; rotate_left; (focus (go_simp; try with_reducible rfl)); (try simp only [List.setIfInBounds_toArray, List.set_cons_succ, List.set_cons_zero]))
    (refine rg_take (v := ?_) 5 rfl (by kernel_rfl) (by kernel_rfl) (by kernel_rfl) (fun _ _ _ h => h) (by rfl) (by assumption) (fun W hW => ?_) ?_; rotate_left; (focus (go_simp; try with_reducible rfl)); (try simp only [List.setIfInBounds_toArray, List.set_cons_succ, List.set_cons_zero]))
    (refine rg_take (v := ?_) 6 rfl (by kernel_rfl) (by kernel_rfl) (by kernel_rfl) (fun _ _ _ h => h) (by rfl) (by assumption) (fun W hW => ?_) ?_; rotate_left; (focus (go_simp; try with_reducible rfl)); (try simp only [List.setIfInBounds_toArray, List.set_cons_succ, List.set_cons_zero]))
    (refine rg_take (v := ?_) 7 rfl (by kernel_rfl) (by kernel_rfl) (by kernel_rfl) (fun _ _ _ h => h) (by rfl) (by assumption) (fun W hW => ?_) ?_; rotate_left; (focus (have k0 := hW.cell c4; go_simp; try with_reducible rfl)); (try simp only [List.setIfInBounds_toArray, List.set_cons_succ, List.set_cons_zero]))
    (refine rg_take (v := ?_) 8 rfl (by kernel_rfl) (by kernel_rfl) (by kernel_rfl) (fun _ _ _ h => h) (by rfl) (by assumption) (fun W hW => ?_) ?_; rotate_left; (focus (go_simp; try with_reducible rfl)); (try simp only [List.setIfInBounds_toArray, List.set_cons_succ, List.set_cons_zero]))
    (refine rg_take (v := ?_) 9 rfl (by kernel_rfl) (by kernel_rfl) (by kernel_rfl) (fun _ _ _ h => h) (by rfl) (by assumption) (fun W hW => ?_) ?_; rotate_left; (focus (go_simp; try with_reducible rfl)); (try simp only [List.setIfInBounds_toArray, List.set_cons_succ, List.set_cons_zero]))
    (refine rg_take (v := ?_) 10 rfl (by kernel_rfl) (by kernel_rfl) (by kernel_rfl) (fun _ _ _ h => h) (by rfl) (by assumption) (fun W hW => ?_) ?_; rotate_left; (focus (have k0 := hW.cell c6; have k1 := hW.cell c7; have k2 := hW.cell c8; go_simp; try with_reducible rfl)); (try simp only [List.setIfInBounds_toArray, List.set_cons_succ, List.set_cons_zero]))
    (refine rg_take (v := ?_) 11 rfl (by kernel_rfl) (by kernel_rfl) (by kernel_rfl) (fun _ _ _ h => h) (by rfl) (by assumption) (fun W hW => ?_) ?_; rotate_left; (focus (go_simp; try with_reducible rfl)); (try simp only [List.setIfInBounds_toArray, List.set_cons_succ, List.set_cons_zero]))
    (refine rg_take (v := ?_) 12 rfl (by kernel_rfl) (by kernel_rfl) (by kernel_rfl) (fun _ _ _ h => h) (by rfl) (by assumption) (fun W hW => ?_) ?_; rotate_left; (focus (go_simp; try with_reducible rfl)); (try simp only [List.setIfInBounds_toArray, List.set_cons_succ, List.set_cons_zero]))
    (refine rg_take (v := ?_) 13 rfl (by kernel_rfl) (by kernel_rfl) (by kernel_rfl) (fun _ _ _ h => h) (by rfl) (by assumption) (fun W hW => ?_) ?_; rotate_left; (focus (have k0 := hW.cell c9; have k1 := hW.cell c10; have k2 := hW.cell c11; go_simp; try with_reducible rfl)); (try simp only [List.setIfInBounds_toArray, List.set_cons_succ, List.set_cons_zero]))
    (refine rg_take (v := ?_) 14 rfl (by kernel_rfl) (by kernel_rfl) (by kernel_rfl) (fun _ _ _ h => h) (by rfl) (by assumption) (fun W hW => ?_) ?_; rotate_left; (focus (go_simp; try with_reducible rfl)); (try simp only [List.setIfInBounds_toArray, List.set_cons_succ, List.set_cons_zero]))
    generalize w1.drew = wd at hE0 ⊢
    (refine rg_one 15 (by kernel_rfl) rfl (by rfl) (fun K hK => ?_); go_simp)
    refine hK _ _ (by repeat (first | exact Ext.refl _ | assumption | refine Ext.alloc ?_ _ | refine Ext.drewN ?_ _ | refine Ext.drew ?_ | refine Ext.set ?_ (by dsimp only; omega) _ | refine Ext.trans ?_ (by assumption))) (fun hE1 => ?_)
    clear hK K
    try simp only [List.setIfInBounds_toArray, List.set_cons_succ, List.set_cons_zero]
    (refine rg_take (v := ?_) 16 rfl (by kernel_rfl) (by kernel_rfl) (by kernel_rfl) (fun _ _ _ h => h) (by rfl) (by assumption) (fun W hW => ?_) ?_; rotate_left; (focus (go_simp; try with_reducible rfl)); (try simp only [List.setIfInBounds_toArray, List.set_cons_succ, List.set_cons_zero]))
    (refine rg_one 17 (by kernel_rfl) rfl (by rfl) (fun K hK => ?_); go_simp)
    refine hK _ _ (by repeat (first | exact Ext.refl _ | assumption | refine Ext.alloc ?_ _ | refine Ext.drewN ?_ _ | refine Ext.drew ?_ | refine Ext.set ?_ (by dsimp only; omega) _ | refine Ext.trans ?_ (by assumption))) (fun hE2 => ?_)
    clear hK K
    try simp only [List.setIfInBounds_toArray, List.set_cons_succ, List.set_cons_zero]
    refine rg_done (by kernel_rfl) ?_
    have hyw : wd.heap.size ≠ w.heap.size := by
      have h1 := HX1.out.lt
      have h2 := hE0.le
      omega
    have HY := Lib.hid (Blk.new wd 32 [.int .i64 x1.b, .int .i64 x2.a, .int .i64 x2.b, .string x2.c, .int .i64 x3.a, .int .i64 x3.b, .string x3.c])
    have HX2 := Lib.hid (HX1.out.ext hE2)
    have HE2 := Lib.hid (HE1.out.trans hE2)
    clear c0 c1 c2 c3 c4 c5 c6 c7 c8 c9 c10 c11 hE0 hE1 hE2 HB HX1 HE1 hgw
    generalize wd.alloc (.cells #[.int .i64 x1.b, .int .i64 x2.a, .int .i64 x2.b, .string x2.c, .int .i64 x3.a, .int .i64 x3.b, .string x3.c] 32) = w3 at HY HX2 HE2 ⊢
    generalize wd.heap.size = y at HY hyw ⊢
    have HT := Lib.hid (impl_isTable x0.b w3)
    go_wp2_with fail
    refine HT.out.mono ?_
    rintro e w4 ⟨rfl, rfl⟩
    rcases g2 : inB x0.b 1 3 with _ | _
    · have HV := Lib.hid (rw_none H1.out (by rw [HO.out]; unfold rrO; simp only [HF.out, g2, Bool.and_false, Bool.false_and]; rfl))
      obtain ⟨p0, p1, p2, p3, p4, p5, p6⟩ := HX2.out.cells7
      have f0 := HX2.out.frozen 0
      have f1 := HX2.out.frozen 1
      have f2 := HX2.out.frozen 2
      have f3 := HX2.out.frozen 3
      have f4 := HX2.out.frozen 4
      have f5 := HX2.out.frozen 5
      have f6 := HX2.out.frozen 6
      go_wp2_with fail
      refine bodyPost_ret (v := .tuple #[.int .i64 0, .agg #[.int .i64 0, .int .i64 0, .int .i64 0, .string ⟨#[]⟩, .int .i64 0, .int .i64 0, .string ⟨#[]⟩], .int .i64 3]) (by simp [results, Try.results23, go_sem, p0, p1, p2, p3, p4, p5, p6]; try rfl) rfl ?_
      exact RwPost.of (t := 0) (r := rowZ) (c := 3) HV.out (Ext.set (Ext.set (Ext.set (Ext.set (Ext.set (Ext.set (Ext.set HE2.out (Nat.le_refl _) _) (Nat.le_refl _) _) (Nat.le_refl _) _) (Nat.le_refl _) _) (Nat.le_refl _) _) (Nat.le_refl _) _) (Nat.le_refl _) _)
    have HR := Lib.hid (impl_rowOK ⟨x1.b, x2, x3⟩ w3 HS2.out HS3.out)
    obtain ⟨z0, z1, z2, z3, z4, z5, z6⟩ := HY.out.cells7
    go_wp2_with fail
    refine HR.out.mono ?_
    rintro e w4 ⟨rfl, E4⟩
    have HX4 := Lib.hid (HX2.out.ext E4)
    have HY4 := Lib.hid (HY.out.ext E4)
    have HE4 := Lib.hid (HE2.out.trans E4)
    clear HR HT z0 z1 z2 z3 z4 z5 z6 HX2 HY HE2 E4
    rcases g3 : rowB ⟨x1.b, x2, x3⟩ with _ | _
    · have HV := Lib.hid (rw_none H1.out (by rw [HO.out]; unfold rrO; simp only [HF.out, g3, Bool.and_false]; rfl))
      obtain ⟨p0, p1, p2, p3, p4, p5, p6⟩ := HX4.out.cells7
      have f0 := HX4.out.frozen 0
      have f1 := HX4.out.frozen 1
      have f2 := HX4.out.frozen 2
      have f3 := HX4.out.frozen 3
      have f4 := HX4.out.frozen 4
      have f5 := HX4.out.frozen 5
      have f6 := HX4.out.frozen 6
      go_wp2_with fail
      refine bodyPost_ret (v := .tuple #[.int .i64 0, .agg #[.int .i64 0, .int .i64 0, .int .i64 0, .string ⟨#[]⟩, .int .i64 0, .int .i64 0, .string ⟨#[]⟩], .int .i64 3]) (by simp [results, Try.results23, go_sem, p0, p1, p2, p3, p4, p5, p6]; try rfl) rfl ?_
      exact RwPost.of (t := 0) (r := rowZ) (c := 3) HV.out (Ext.set (Ext.set (Ext.set (Ext.set (Ext.set (Ext.set (Ext.set HE4.out (Nat.le_refl _) _) (Nat.le_refl _) _) (Nat.le_refl _) _) (Nat.le_refl _) _) (Nat.le_refl _) _) (Nat.le_refl _) _) (Nat.le_refl _) _)
    have HV := Lib.hid (rw_some (t := x0.b) (r := ⟨x1.b, x2, x3⟩) H1.out (by rw [HO.out]; unfold rrO; simp only [HF.out, g0, g1, g2, g3, Bool.and_true, if_true]))
    go_wp2_with fail
    refine rg_startS (fun W => Blk W y 32 [.int .i64 x1.b, .int .i64 x2.a, .int .i64 x2.b, .string x2.c, .int .i64 x3.a, .int .i64 x3.b, .string x3.c] ∧ Ext w W) (by kernel_rfl) ⟨HY4.out.drew, HE4.out.drew⟩ (fun hS0 => ?_)
    have HX5 := Lib.hid HX4.out.drew
    generalize w4.drew = w5 at HX5 hS0 ⊢
    clear HX4 HY4 HE4
    (refine rg_take (v := ?_) 0 rfl (by kernel_rfl) (by kernel_rfl) (by kernel_rfl) (fun _ _ _ h => h) (by rfl) (by assumption) (fun W hW => ?_) ?_; rotate_left; (focus (go_simp; try with_reducible rfl)); (try simp only [List.setIfInBounds_toArray, List.set_cons_succ, List.set_cons_zero]))
    (refine rg_take (v := ?_) 1 rfl (by kernel_rfl) (by kernel_rfl) (by kernel_rfl) (fun _ _ _ h => h) (by rfl) (by assumption) (fun W hW => ?_) ?_; rotate_left; (focus (obtain ⟨p0, p1, p2, p3, p4, p5, p6⟩ := hW.1.cells7; go_simp; try with_reducible rfl)); (try simp only [List.setIfInBounds_toArray, List.set_cons_succ, List.set_cons_zero]))
    (refine rg_take (v := ?_) 2 rfl (by kernel_rfl) (by kernel_rfl) (by kernel_rfl) (fun _ _ _ h => h) (by rfl) (by assumption) (fun W hW => ?_) ?_; rotate_left; (focus (go_simp; try with_reducible rfl)); (try simp only [List.setIfInBounds_toArray, List.set_cons_succ, List.set_cons_zero]))
    obtain ⟨p0, p1, p2, p3, p4, p5, p6⟩ := HX5.out.cells7
    have f0 := HX5.out.frozen 0
    have f1 := HX5.out.frozen 1
    have f2 := HX5.out.frozen 2
    have f3 := HX5.out.frozen 3
    have f4 := HX5.out.frozen 4
    have f5 := HX5.out.frozen 5
    have f6 := HX5.out.frozen 6
    (refine rg_one 3 (by kernel_rfl) rfl (by rfl) (fun K hK => ?_); go_simp)
    refine hK _ _ ⟨(Blk.far (Blk.far (Blk.far (Blk.far (Blk.far (Blk.far (Blk.far hS0.1 hyw _) hyw _) hyw _) hyw _) hyw _) hyw _) hyw _), (Ext.set (Ext.set (Ext.set (Ext.set (Ext.set (Ext.set (Ext.set hS0.2 (Nat.le_refl _) _) (Nat.le_refl _) _) (Nat.le_refl _) _) (Nat.le_refl _) _) (Nat.le_refl _) _) (Nat.le_refl _) _) (Nat.le_refl _) _)⟩ (fun hS6 => ?_)
    clear hK K
    try simp only [List.setIfInBounds_toArray, List.set_cons_succ, List.set_cons_zero]
    (refine rg_take (v := ?_) 4 rfl (by kernel_rfl) (by kernel_rfl) (by kernel_rfl) (fun _ _ _ h => h) (by rfl) (by assumption) (fun W hW => ?_) ?_; rotate_left; (focus (go_simp; try with_reducible rfl)); (try simp only [List.setIfInBounds_toArray, List.set_cons_succ, List.set_cons_zero]))
    refine rg_done (by kernel_rfl) ?_
    go_wp2_with fail
    refine bodyPost_ret (v := .tuple #[.int .i64 x0.b, .agg #[.int .i64 x1.b, .int .i64 x2.a, .int .i64 x2.b, .string x2.c, .int .i64 x3.a, .int .i64 x3.b, .string x3.c], .int .i64 0]) (by simp [results, Try.results23, go_sem, p0, p1, p2, p3, p4, p5, p6]; try rfl) rfl ?_
    exact RwPost.of (t := x0.b) (r := ⟨x1.b, x2, x3⟩) (c := 0) HV.out hS6.2
  · have HK := Lib.hid hK
    have HV := Lib.hid (rw_none h1' (by rw [ho]; exact rrO_len h4))
    have h4I : ((xs.length : Int) != 4) = true := by rw [bne_iff_ne]; omega
    clear hl hK ho hsm hr h1s h1'
    go_enter Try.func23, Try.ntmps23
    go_wp2_with fail
    refine HK.out.mono ?_
    rintro e w1 ⟨v, rfl, hv, E1⟩
    have O1 := hv _ rfl
    have HX1 := Lib.hid (HX.out.ext E1)
    have HE1 := Lib.hid (HE.out.trans E1)
    obtain ⟨A1, cap1, rfl⟩ := own_sliceN O1
    clear O1 hv HX HE E1 HK
    obtain ⟨p0, p1, p2, p3, p4, p5, p6⟩ := HX1.out.cells7
    have f0 := HX1.out.frozen 0
    have f1 := HX1.out.frozen 1
    have f2 := HX1.out.frozen 2
    have f3 := HX1.out.frozen 3
    have f4 := HX1.out.frozen 4
    have f5 := HX1.out.frozen 5
    have f6 := HX1.out.frozen 6
    go_wp2_with fail
    refine bodyPost_ret (v := .tuple #[.int .i64 0, .agg #[.int .i64 0, .int .i64 0, .int .i64 0, .string ⟨#[]⟩, .int .i64 0, .int .i64 0, .string ⟨#[]⟩], .int .i64 3]) (by simp [results, Try.results23, go_sem, p0, p1, p2, p3, p4, p5, p6]; try rfl) rfl ?_
    exact RwPost.of (t := 0) (r := rowZ) (c := 3) HV.out (Ext.set (Ext.set (Ext.set (Ext.set (Ext.set (Ext.set (Ext.set HE1.out (Nat.le_refl _) _) (Nat.le_refl _) _) (Nat.le_refl _) _) (Nat.le_refl _) _) (Nat.le_refl _) _) (Nat.le_refl _) _) (Nat.le_refl _) _)
end Go.Proofs.Ythfkfdfcgldbeaa
