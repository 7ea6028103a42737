/- The walk of the reference's l07Read (printed by gen_rowr.py). -/
import Derived.Test.YthfkfdfcgldbeaaRowR
namespace Go.Proofs.Ythfkfdfcgldbeaa
open Go.RowKit Go.Deep
set_option linter.unusedVariables false
set_option maxRecDepth 100000
set_option maxHeartbeats 4000000 in
theorem spec_l07Read (s : ByteArray) (w : World) (hs : s.size ≤ 65536) :
    Calls Try.prog 69 #[.string s] w (R7Post w (rrO (keyO s.data.toList))) := by
  have HX := Lib.hid (Blk.new w 32 [.int .i64 0, .int .i64 0, .int .i64 0, .string ⟨#[]⟩, .int .i64 0, .int .i64 0, .string ⟨#[]⟩])
  have HE := Lib.hid (show Ext w (w.alloc (.cells #[.int .i64 0, .int .i64 0, .int .i64 0, .string ⟨#[]⟩, .int .i64 0, .int .i64 0, .string ⟨#[]⟩] 32)) from (by repeat (first | exact Ext.refl _ | assumption | refine Ext.alloc ?_ _ | refine Ext.drewN ?_ _ | refine Ext.drew ?_ | refine Ext.set ?_ (by dsimp only; omega) _ | refine Ext.trans ?_ (by assumption))))
  have hK := spec_l01ReadKey s (w.alloc (.cells #[.int .i64 0, .int .i64 0, .int .i64 0, .string ⟨#[]⟩, .int .i64 0, .int .i64 0, .string ⟨#[]⟩] 32)) hs
  have hsm := fun xs h => kR_small s.data.toList.length s.data.toList xs h
  unfold K1Post at hK
  rcases ho : keyO s.data.toList with _ | xs
  · rw [ho] at hK
    have HK := Lib.hid hK
    have HN := Lib.hid (show rrO none = none from rfl)
    clear hK ho hsm
    go_enter Try.func69, Try.ntmps69
    go_wp2_with fail
    refine HK.out.mono ?_
    rintro e w1 ⟨v, rfl, O1, E1⟩
    have HX1 := HX.out.ext E1
    obtain ⟨A1, cap1, rfl⟩ := own_sliceN O1
    clear O1
    obtain ⟨p0, p1, p2, p3, p4, p5, p6⟩ := HX1.cells7
    have f0 := HX1.frozen 0
    have f1 := HX1.frozen 1
    have f2 := HX1.frozen 2
    have f3 := HX1.frozen 3
    have f4 := HX1.frozen 4
    have f5 := HX1.frozen 5
    have f6 := HX1.frozen 6
    go_wp2_with fail
    refine bodyPost_ret (v := .tuple #[.int .i64 0, .agg #[.int .i64 0, .int .i64 0, .int .i64 0, .string ⟨#[]⟩, .int .i64 0, .int .i64 0, .string ⟨#[]⟩], .bool false]) (by simp [results, Try.results69, go_sem, p0, p1, p2, p3, p4, p5, p6]; try rfl) rfl ?_
    exact .no (r := ⟨0, ⟨0, 0, ⟨#[]⟩⟩, ⟨0, 0, ⟨#[]⟩⟩⟩) HN.out (Ext.set (Ext.set (Ext.set (Ext.set (Ext.set (Ext.set (Ext.set (HE.out.trans E1) (Nat.le_refl _) _) (Nat.le_refl _) _) (Nat.le_refl _) _) (Nat.le_refl _) _) (Nat.le_refl _) _) (Nat.le_refl _) _) (Nat.le_refl _) _)
  rw [ho] at hK
  by_cases h4 : xs.length = 4
  · obtain ⟨x0, x1, x2, x3, rfl⟩ := len_four h4
    have hsz : ∀ x ∈ [x0, x1, x2, x3], x.c.size ≤ maxLen := by
      intro x hx
      have h1 := hsm _ ho x hx
      have h2 : s.data.toList.length = s.size := by rw [Array.length_toList]; rfl
      unfold maxLen; omega
    have HS2 := Lib.hid (hsz x2 (by simp))
    have HS3 := Lib.hid (hsz x3 (by simp))
    have HK := Lib.hid hK
    clear hK ho hsm h4 hsz
    go_enter Try.func69, Try.ntmps69
    go_wp2_with fail
    refine HK.out.mono ?_
    rintro e w1 ⟨v, rfl, O1, E1⟩
    have HX1 := Lib.hid (HX.out.ext E1)
    have HE1 := Lib.hid (HE.out.trans E1)
    obtain ⟨g, cap, rfl, cs, hblk⟩ := four_vals O1
    have HB := Lib.hid hblk
    obtain ⟨c0, c1, c2, c3, c4, c5, c6, c7, c8, c9, c10, c11⟩ := hblk.cells12
    clear O1 E1 HK HX HE hblk
    have hF : isR x0 x1 x2 x3 = ((x0.a == 1) && (x1.a == 1) && inB x0.b 1 3 && rowB ⟨x1.b, x2, x3⟩) := rfl
    have HF := Lib.hid hF
    clear hF
    rcases g0 : (x0.a == 1) with _ | _
    · have g0' : (x0.a != 1) = true := by unfold bne; rw [g0]; rfl
      have HN := Lib.hid (show rrO (some [x0, x1, x2, x3]) = none by unfold rrO; simp only [HF.out, g0]; rfl)
      obtain ⟨p0, p1, p2, p3, p4, p5, p6⟩ := HX1.out.cells7
      have f0 := HX1.out.frozen 0
      have f1 := HX1.out.frozen 1
      have f2 := HX1.out.frozen 2
      have f3 := HX1.out.frozen 3
      have f4 := HX1.out.frozen 4
      have f5 := HX1.out.frozen 5
      have f6 := HX1.out.frozen 6
      go_wp2_with fail
      refine bodyPost_ret (v := .tuple #[.int .i64 0, .agg #[.int .i64 0, .int .i64 0, .int .i64 0, .string ⟨#[]⟩, .int .i64 0, .int .i64 0, .string ⟨#[]⟩], .bool false]) (by simp [results, Try.results69, go_sem, p0, p1, p2, p3, p4, p5, p6]; try rfl) rfl ?_
      exact .no (r := ⟨0, ⟨0, 0, ⟨#[]⟩⟩, ⟨0, 0, ⟨#[]⟩⟩⟩) HN.out (Ext.set (Ext.set (Ext.set (Ext.set (Ext.set (Ext.set (Ext.set HE1.out (Nat.le_refl _) _) (Nat.le_refl _) _) (Nat.le_refl _) _) (Nat.le_refl _) _) (Nat.le_refl _) _) (Nat.le_refl _) _) (Nat.le_refl _) _)
    have g0' : (x0.a != 1) = false := by unfold bne; rw [g0]; rfl
    rcases g1 : (x1.a == 1) with _ | _
    · have g1' : (x1.a != 1) = true := by unfold bne; rw [g1]; rfl
      have HN := Lib.hid (show rrO (some [x0, x1, x2, x3]) = none by unfold rrO; simp only [HF.out, g1, Bool.and_false, Bool.false_and]; rfl)
      obtain ⟨p0, p1, p2, p3, p4, p5, p6⟩ := HX1.out.cells7
      have f0 := HX1.out.frozen 0
      have f1 := HX1.out.frozen 1
      have f2 := HX1.out.frozen 2
      have f3 := HX1.out.frozen 3
      have f4 := HX1.out.frozen 4
      have f5 := HX1.out.frozen 5
      have f6 := HX1.out.frozen 6
      go_wp2_with fail
      refine bodyPost_ret (v := .tuple #[.int .i64 0, .agg #[.int .i64 0, .int .i64 0, .int .i64 0, .string ⟨#[]⟩, .int .i64 0, .int .i64 0, .string ⟨#[]⟩], .bool false]) (by simp [results, Try.results69, go_sem, p0, p1, p2, p3, p4, p5, p6]; try rfl) rfl ?_
      exact .no (r := ⟨0, ⟨0, 0, ⟨#[]⟩⟩, ⟨0, 0, ⟨#[]⟩⟩⟩) HN.out (Ext.set (Ext.set (Ext.set (Ext.set (Ext.set (Ext.set (Ext.set HE1.out (Nat.le_refl _) _) (Nat.le_refl _) _) (Nat.le_refl _) _) (Nat.le_refl _) _) (Nat.le_refl _) _) (Nat.le_refl _) _) (Nat.le_refl _) _)
    have g1' : (x1.a != 1) = false := by unfold bne; rw [g1]; rfl
    have HO := Lib.hid (spec_l01In x0.b 1 3 w1)
    go_wp2_with fail
    refine HO.out.mono ?_
    rintro e w2 ⟨rfl, rfl⟩
    rcases g2 : inB x0.b 1 3 with _ | _
    · have HN := Lib.hid (show rrO (some [x0, x1, x2, x3]) = none by unfold rrO; simp only [HF.out, g2, Bool.and_false, Bool.false_and]; rfl)
      obtain ⟨p0, p1, p2, p3, p4, p5, p6⟩ := HX1.out.cells7
      have f0 := HX1.out.frozen 0
      have f1 := HX1.out.frozen 1
      have f2 := HX1.out.frozen 2
      have f3 := HX1.out.frozen 3
      have f4 := HX1.out.frozen 4
      have f5 := HX1.out.frozen 5
      have f6 := HX1.out.frozen 6
      go_wp2_with fail
      refine bodyPost_ret (v := .tuple #[.int .i64 0, .agg #[.int .i64 0, .int .i64 0, .int .i64 0, .string ⟨#[]⟩, .int .i64 0, .int .i64 0, .string ⟨#[]⟩], .bool false]) (by simp [results, Try.results69, go_sem, p0, p1, p2, p3, p4, p5, p6]; try rfl) rfl ?_
      exact .no (r := ⟨0, ⟨0, 0, ⟨#[]⟩⟩, ⟨0, 0, ⟨#[]⟩⟩⟩) HN.out (Ext.set (Ext.set (Ext.set (Ext.set (Ext.set (Ext.set (Ext.set HE1.out (Nat.le_refl _) _) (Nat.le_refl _) _) (Nat.le_refl _) _) (Nat.le_refl _) _) (Nat.le_refl _) _) (Nat.le_refl _) _) (Nat.le_refl _) _)
    go_wp2_with fail
    refine rg_start (by kernel_rfl) (Ext.refl w1) (fun hE0 => ?_)
    (refine rg_take (v := ?_) 0 rfl (by kernel_rfl) (by kernel_rfl) (by kernel_rfl) (fun _ _ _ h => h) (by rfl) (by assumption) (fun W hW => ?_) ?_; rotate_left; (focus (go_simp; try with_reducible rfl)); (try simp only [List.setIfInBounds_toArray, List.set_cons_succ, List.set_cons_zero]))
    (refine rg_take (v := ?_) 1 rfl (by kernel_rfl) (by kernel_rfl) (by kernel_rfl) (fun _ _ _ h => h) (by rfl) (by assumption) (fun W hW => ?_) ?_; rotate_left; (focus (go_simp; try with_reducible rfl)); (try simp only [List.setIfInBounds_toArray, List.set_cons_succ, List.set_cons_zero]))
    (refine rg_take (v := ?_) 2 rfl (by kernel_rfl) (by kernel_rfl) (by kernel_rfl) (fun _ _ _ h => h) (by rfl) (by assumption) (fun W hW => ?_) ?_; rotate_left; (focus (go_simp; try with_reducible rfl)); (try simp only [List.setIfInBounds_toArray, List.set_cons_succ, List.set_cons_zero]))
    (refine rg_take (v := ?_) 3 rfl (by kernel_rfl) (by kernel_rfl) (by kernel_rfl) (fun _ _ _ h => h) (by rfl) (by assumption) (fun W hW => ?_) ?_; rotate_left; (focus (have k0 := hW.cell c4; go_simp; try with_reducible rfl)); (try simp only [List.setIfInBounds_toArray, List.set_cons_succ, List.set_cons_zero]))
    (refine rg_take (v := ?_) 4 rfl (by kernel_rfl) (by kernel_rfl) (by kernel_rfl) (fun _ _ _ h => h) (by rfl) (by assumption) (fun W hW => ?_) ?_; rotate_left; (focus (go_simp; try with_reducible rfl)); (try simp only [List.setIfInBounds_toArray, List.set_cons_succ, List.set_cons_zero]))
    (refine rg_take (v := ?_) 5 rfl (by kernel_rfl) (by kernel_rfl) (by kernel_rfl) (fun _ _ _ h => h) (by rfl) (by assumption) (fun W hW => ?_) ?_; rotate_left; (focus (go_simp; try with_reducible rfl)); (try simp only [List.setIfInBounds_toArray, List.set_cons_succ, List.set_cons_zero]))
    (refine rg_take (v := ?_) 6 rfl (by kernel_rfl) (by kernel_rfl) (by kernel_rfl) (fun _ _ _ h => h) (by rfl) (by assumption) (fun W hW => ?_) ?_; rotate_left; (focus (have k0 := hW.cell c6; have k1 := hW.cell c7; have k2 := hW.cell c8; go_simp; try with_reducible rfl)); (try simp only [List.setIfInBounds_toArray, List.set_cons_succ, List.set_cons_zero]))
    (refine rg_take (v := ?_) 7 rfl (by kernel_rfl) (by kernel_rfl) (by kernel_rfl) (fun _ _ _ h => h) (by rfl) (by assumption) (fun W hW => ?_) ?_; rotate_left; (focus (go_simp; try with_reducible rfl)); (try simp only [List.setIfInBounds_toArray, List.set_cons_succ, List.set_cons_zero]))
    (refine rg_take (v := ?_) 8 rfl (by kernel_rfl) (by kernel_rfl) (by kernel_rfl) (fun _ _ _ h => h) (by rfl) (by assumption) (fun W hW => ?_) ?_; rotate_left; (focus (go_simp; try with_reducible rfl)); (try simp only [List.setIfInBounds_toArray, List.set_cons_succ, List.set_cons_zero]))
    (refine rg_take (v := ?_) 9 rfl (by kernel_rfl) (by kernel_rfl) (by kernel_rfl) (fun _ _ _ h => h) (by rfl) (by assumption) (fun W hW => ?_) ?_; rotate_left; (focus (have k0 := hW.cell c9; have k1 := hW.cell c10; have k2 := hW.cell c11; go_simp; try with_reducible rfl)); (try simp only [List.setIfInBounds_toArray, List.set_cons_succ, List.set_cons_zero]))
    (refine rg_take (v := ?_) 10 rfl (by kernel_rfl) (by kernel_rfl) (by kernel_rfl) (fun _ _ _ h => h) (by rfl) (by assumption) (fun W hW => ?_) ?_; rotate_left; (focus (go_simp; try with_reducible rfl)); (try simp only [List.setIfInBounds_toArray, List.set_cons_succ, List.set_cons_zero]))
    generalize w1.drew = wd at hE0 ⊢
    (refine rg_one 11 (by kernel_rfl) rfl (by rfl) (fun K hK => ?_); go_simp)
    refine hK _ _ (by repeat (first | exact Ext.refl _ | assumption | refine Ext.alloc ?_ _ | refine Ext.drewN ?_ _ | refine Ext.drew ?_ | refine Ext.set ?_ (by dsimp only; omega) _ | refine Ext.trans ?_ (by assumption))) (fun hE1 => ?_)
    clear hK K
    try simp only [List.setIfInBounds_toArray, List.set_cons_succ, List.set_cons_zero]
    (refine rg_one 12 (by kernel_rfl) rfl (by rfl) (fun K hK => ?_); go_simp)
    refine hK _ _ (by repeat (first | exact Ext.refl _ | assumption | refine Ext.alloc ?_ _ | refine Ext.drewN ?_ _ | refine Ext.drew ?_ | refine Ext.set ?_ (by dsimp only; omega) _ | refine Ext.trans ?_ (by assumption))) (fun hE2 => ?_)
    clear hK K
    try simp only [List.setIfInBounds_toArray, List.set_cons_succ, List.set_cons_zero]
    refine rg_done (by kernel_rfl) ?_
    have hgw : g ≠ w.heap.size := by
      intro e
      have h := HB.out
      rw [e] at h
      have h2 := h.symm.trans HX1.out
      simp at h2
    have hyw : wd.heap.size ≠ w.heap.size := by
      have h1 := HX1.out.lt
      have h2 := hE0.le
      omega
    have HY := Lib.hid (Blk.new wd 32 [.int .i64 x1.b, .int .i64 x2.a, .int .i64 x2.b, .string x2.c, .int .i64 x3.a, .int .i64 x3.b, .string x3.c])
    have HB2 := Lib.hid (HB.out.ext hE2)
    have HX2 := Lib.hid (HX1.out.ext hE2)
    have HE2 := Lib.hid (HE1.out.trans hE2)
    clear c0 c1 c2 c3 c4 c5 c6 c7 c8 c9 c10 c11 hE0 hE1 hE2 HB HX1 HE1 HO
    generalize wd.alloc (.cells #[.int .i64 x1.b, .int .i64 x2.a, .int .i64 x2.b, .string x2.c, .int .i64 x3.a, .int .i64 x3.b, .string x3.c] 32) = w3 at HY HB2 HX2 HE2 ⊢
    generalize wd.heap.size = y at HY hyw ⊢
    go_wp2_with fail
    refine rg_startS (fun W => Blk W y 32 [.int .i64 x1.b, .int .i64 x2.a, .int .i64 x2.b, .string x2.c, .int .i64 x3.a, .int .i64 x3.b, .string x3.c] ∧ Blk W g 30 ([.int .i64 x0.a, .int .i64 x0.b, .string x0.c, .int .i64 x1.a, .int .i64 x1.b, .string x1.c, .int .i64 x2.a, .int .i64 x2.b, .string x2.c, .int .i64 x3.a, .int .i64 x3.b, .string x3.c] ++ cs) ∧ Ext w W) (by kernel_rfl) ⟨HY.out.drew, HB2.out.drew, HE2.out.drew⟩ (fun hS0 => ?_)
    have HX3 := Lib.hid HX2.out.drew
    generalize w3.drew = w4 at HX3 hS0 ⊢
    clear HX2 HY HB2 HE2
    (refine rg_take (v := ?_) 0 rfl (by kernel_rfl) (by kernel_rfl) (by kernel_rfl) (fun _ _ _ h => h) (by rfl) (by assumption) (fun W hW => ?_) ?_; rotate_left; (focus (go_simp; try with_reducible rfl)); (try simp only [List.setIfInBounds_toArray, List.set_cons_succ, List.set_cons_zero]))
    (refine rg_take (v := ?_) 1 rfl (by kernel_rfl) (by kernel_rfl) (by kernel_rfl) (fun _ _ _ h => h) (by rfl) (by assumption) (fun W hW => ?_) ?_; rotate_left; (focus (go_simp; try with_reducible rfl)); (try simp only [List.setIfInBounds_toArray, List.set_cons_succ, List.set_cons_zero]))
    (refine rg_take (v := ?_) 2 rfl (by kernel_rfl) (by kernel_rfl) (by kernel_rfl) (fun _ _ _ h => h) (by rfl) (by assumption) (fun W hW => ?_) ?_; rotate_left; (focus (go_simp; try with_reducible rfl)); (try simp only [List.setIfInBounds_toArray, List.set_cons_succ, List.set_cons_zero]))
    (refine rg_take (v := ?_) 3 rfl (by kernel_rfl) (by kernel_rfl) (by kernel_rfl) (fun _ _ _ h => h) (by rfl) (by assumption) (fun W hW => ?_) ?_; rotate_left; (focus (obtain ⟨c0, c1, c2, c3, c4, c5, c6, c7, c8, c9, c10, c11⟩ := hW.2.1.cells12; go_simp; try with_reducible rfl)); (try simp only [List.setIfInBounds_toArray, List.set_cons_succ, List.set_cons_zero]))
    (refine rg_take (v := ?_) 4 rfl (by kernel_rfl) (by kernel_rfl) (by kernel_rfl) (fun _ _ _ h => h) (by rfl) (by assumption) (fun W hW => ?_) ?_; rotate_left; (focus (obtain ⟨p0, p1, p2, p3, p4, p5, p6⟩ := hW.1.cells7; go_simp; try with_reducible rfl)); (try simp only [List.setIfInBounds_toArray, List.set_cons_succ, List.set_cons_zero]))
    (refine rg_take (v := ?_) 5 rfl (by kernel_rfl) (by kernel_rfl) (by kernel_rfl) (fun _ _ _ h => h) (by rfl) (by assumption) (fun W hW => ?_) ?_; rotate_left; (focus (obtain ⟨p0, p1, p2, p3, p4, p5, p6⟩ := hW.1.cells7; go_simp; try with_reducible rfl)); (try simp only [List.setIfInBounds_toArray, List.set_cons_succ, List.set_cons_zero]))
    (refine rg_one 6 (by kernel_rfl) rfl (by rfl) (fun K hK => ?_); go_simp)
    refine (spec_l07Row ⟨x1.b, x2, x3⟩ _ HS2.out HS3.out).mono ?_
    rintro e w5 ⟨rfl, E5⟩
    refine hK _ _ ⟨hS0.1.ext E5, hS0.2.1.ext E5, hS0.2.2.trans E5⟩ (fun hS5 => ?_)
    clear hK K
    try simp only [List.setIfInBounds_toArray, List.set_cons_succ, List.set_cons_zero]
    have HX5 := Lib.hid (HX3.out.ext E5)
    clear E5 HX3 hS0
    (refine rg_take (v := ?_) 7 rfl (by kernel_rfl) (by kernel_rfl) (by kernel_rfl) (fun _ _ _ h => h) (by rfl) (by assumption) (fun W hW => ?_) ?_; rotate_left; (focus (go_simp; try with_reducible rfl)); (try simp only [List.setIfInBounds_toArray, List.set_cons_succ, List.set_cons_zero]))
    obtain ⟨p0, p1, p2, p3, p4, p5, p6⟩ := HX5.out.cells7
    have f0 := HX5.out.frozen 0
    have f1 := HX5.out.frozen 1
    have f2 := HX5.out.frozen 2
    have f3 := HX5.out.frozen 3
    have f4 := HX5.out.frozen 4
    have f5 := HX5.out.frozen 5
    have f6 := HX5.out.frozen 6
    (refine rg_one 8 (by kernel_rfl) rfl (by rfl) (fun K hK => ?_); go_simp)
    refine hK _ _ ⟨(Blk.far (Blk.far (Blk.far (Blk.far (Blk.far (Blk.far (Blk.far hS5.1 hyw _) hyw _) hyw _) hyw _) hyw _) hyw _) hyw _), (Blk.far (Blk.far (Blk.far (Blk.far (Blk.far (Blk.far (Blk.far hS5.2.1 hgw _) hgw _) hgw _) hgw _) hgw _) hgw _) hgw _), (Ext.set (Ext.set (Ext.set (Ext.set (Ext.set (Ext.set (Ext.set hS5.2.2 (Nat.le_refl _) _) (Nat.le_refl _) _) (Nat.le_refl _) _) (Nat.le_refl _) _) (Nat.le_refl _) _) (Nat.le_refl _) _) (Nat.le_refl _) _)⟩ (fun hS6 => ?_)
    clear hK K
    try simp only [List.setIfInBounds_toArray, List.set_cons_succ, List.set_cons_zero]
    (refine rg_take (v := ?_) 9 rfl (by kernel_rfl) (by kernel_rfl) (by kernel_rfl) (fun _ _ _ h => h) (by rfl) (by assumption) (fun W hW => ?_) ?_; rotate_left; (focus (go_simp; try with_reducible rfl)); (try simp only [List.setIfInBounds_toArray, List.set_cons_succ, List.set_cons_zero]))
    refine rg_done (by kernel_rfl) ?_
    go_wp2_with fail
    refine bodyPost_ret (v := .tuple #[.int .i64 x0.b, .agg #[.int .i64 x1.b, .int .i64 x2.a, .int .i64 x2.b, .string x2.c, .int .i64 x3.a, .int .i64 x3.b, .string x3.c], .bool (rowB ⟨x1.b, x2, x3⟩)]) (by simp [results, Try.results69, go_sem, p0, p1, p2, p3, p4, p5, p6]; try rfl) rfl ?_
    rcases g3 : rowB ⟨x1.b, x2, x3⟩ with _ | _
    · exact .no (r := ⟨x1.b, x2, x3⟩) (by unfold rrO; simp only [HF.out, g3, Bool.and_false]; rfl) hS6.2.2
    · refine .yes (r := ⟨x1.b, x2, x3⟩) ?_ hS6.2.2
      unfold rrO
      simp only [HF.out, g0, g1, g2, g3, Bool.and_true, if_true]
  · have HK := Lib.hid hK
    have HN := Lib.hid (rrO_len h4)
    have h4I : ((xs.length : Int) != 4) = true := by rw [bne_iff_ne]; omega
    clear hK ho hsm
    go_enter Try.func69, Try.ntmps69
    go_wp2_with fail
    refine HK.out.mono ?_
    rintro e w1 ⟨v, rfl, O1, E1⟩
    have O1 : w1.ownsRow (w.alloc (.cells #[.int .i64 0, .int .i64 0, .int .i64 0, .string ⟨#[]⟩, .int .i64 0, .int .i64 0, .string ⟨#[]⟩] 32)).heap.size 30 3 v xs.length (xs.flatMap CValue.cs) := O1
    have HX1 := HX.out.ext E1
    obtain ⟨A1, cap1, rfl⟩ := own_sliceN O1
    clear O1
    obtain ⟨p0, p1, p2, p3, p4, p5, p6⟩ := HX1.cells7
    have f0 := HX1.frozen 0
    have f1 := HX1.frozen 1
    have f2 := HX1.frozen 2
    have f3 := HX1.frozen 3
    have f4 := HX1.frozen 4
    have f5 := HX1.frozen 5
    have f6 := HX1.frozen 6
    go_wp2_with fail
    refine bodyPost_ret (v := .tuple #[.int .i64 0, .agg #[.int .i64 0, .int .i64 0, .int .i64 0, .string ⟨#[]⟩, .int .i64 0, .int .i64 0, .string ⟨#[]⟩], .bool false]) (by simp [results, Try.results69, go_sem, p0, p1, p2, p3, p4, p5, p6]; try rfl) rfl ?_
    exact .no (r := ⟨0, ⟨0, 0, ⟨#[]⟩⟩, ⟨0, 0, ⟨#[]⟩⟩⟩) HN.out (Ext.set (Ext.set (Ext.set (Ext.set (Ext.set (Ext.set (Ext.set (HE.out.trans E1) (Nat.le_refl _) _) (Nat.le_refl _) _) (Nat.le_refl _) _) (Nat.le_refl _) _) (Nat.le_refl _) _) (Nat.le_refl _) _) (Nat.le_refl _) _)
end Go.Proofs.Ythfkfdfcgldbeaa
