/- The walk of the reference's test of a checkpoint's text. -/
import Derived.Test.YteaefjicpefgnaaCheck2

namespace Go.Proofs.Yteaefjicpefgnaa
open Go.RowKit Go.Deep
set_option linter.unusedVariables false
set_option maxRecDepth 100000
/-- whether the j-th entry is right -/
def okAt (low high lsn : Int) (l : List (Nat × Nat)) (j : Nat) : Bool := inB ((l.getD j (0, 0)).1 : Int) low high && inB ((l.getD j (0, 0)).2 : Int) 1 (lsn - 1) && (decide (j = 0) || decide ((l.getD (j - 1) (0, 0)).1 < (l.getD j (0, 0)).1))
def okTo (low high lsn : Int) (l : List (Nat × Nat)) (k : Nat) : Bool := (List.range k).all (okAt low high lsn l)
theorem okTo_succ {low high lsn : Int} {l : List (Nat × Nat)} {k : Nat} : okTo low high lsn l (k + 1) = (okTo low high lsn l k && okAt low high lsn l k) := by
  unfold okTo; rw [List.range_succ, List.all_append]; simp
theorem okTo_false {low high lsn : Int} {l : List (Nat × Nat)} {k n : Nat} (h : okAt low high lsn l k = false) (hk : k < n) : okTo low high lsn l n = false := by
  unfold okTo
  rw [List.all_eq_false]
  exact ⟨k, List.mem_range.2 hk, by rw [h]; simp⟩
def ckS (l : List UInt8) (lsn : Int) : Bool := match rdCk l with
  | none => false
  | some (d, t) => decide (d.length ≤ 8) && decide (t.length ≤ 10) && okTo 0 7 lsn d d.length && okTo 1 60 lsn t t.length
theorem prs_at (l : List (Nat × Nat)) (j : Nat) (hj : j < l.length) : (prs l)[j * 2]? = some (.int .i64 ((l.getD j (0, 0)).1 : Int)) ∧ (prs l)[j * 2 + 1]? = some (.int .i64 ((l.getD j (0, 0)).2 : Int)) := by
  induction l generalizing j with
  | nil => simp at hj
  | cons a r ih =>
    cases j with
    | zero => exact ⟨rfl, rfl⟩
    | succ j =>
      have := ih j (by simpa using hj)
      have e : prs (a :: r) = .int .i64 (a.1 : Int) :: .int .i64 (a.2 : Int) :: prs r := rfl
      rw [e, show (j + 1) * 2 = j * 2 + 1 + 1 by omega]
      simpa using this
set_option maxHeartbeats 4000000 in
theorem spec_l04CheckOK (e ls tx k p nx pg sl : Int) (bf af : ByteArray) (w : World) (ha : af.size ≤ 2000000) (h5 : 1 ≤ ls) (h6 : ls ≤ 60) :
    Calls Try.prog 84 #[.agg #[.int .i64 e, .int .i64 ls, .int .i64 tx, .int .i64 k, .int .i64 p, .int .i64 nx, .int .i64 pg, .int .i64 sl, .string bf, .string af]] w fun en w' => en = .returned (.bool (ckS af.data.toList ls)) ∧ Ext w w' := by
  have hB := Blk.new w 57 [.int .i64 e, .int .i64 ls, .int .i64 tx, .int .i64 k, .int .i64 p, .int .i64 nx, .int .i64 pg, .int .i64 sl, .string bf, .string af]
  have E0 : Ext w (w.alloc (.cells #[.int .i64 e, .int .i64 ls, .int .i64 tx, .int .i64 k, .int .i64 p, .int .i64 nx, .int .i64 pg, .int .i64 sl, .string bf, .string af] 57)) := (by repeat (first | exact Ext.refl _ | assumption | refine Ext.alloc ?_ _ | refine Ext.drewN ?_ _ | refine Ext.drew ?_ | refine Ext.set ?_ (by dsimp only; omega) _ | refine Ext.trans ?_ (by assumption)))
  have HC := Lib.hid (spec_l04ReadCheck af (w.alloc (.cells #[.int .i64 e, .int .i64 ls, .int .i64 tx, .int .i64 k, .int .i64 p, .int .i64 nx, .int .i64 pg, .int .i64 sl, .string bf, .string af] 57)) ha)
  unfold RcPost at HC
  have hS : ckS af.data.toList ls = match rdCk af.data.toList with
    | none => false
    | some (d, t) => decide (d.length ≤ 8) && decide (t.length ≤ 10) && okTo 0 7 ls d d.length && okTo 1 60 ls t t.length := rfl
  generalize ckS af.data.toList ls = res at hS ⊢
  rcases ho : rdCk af.data.toList with _ | ⟨d0, t0⟩
  · rw [ho] at hS HC
    have HV := Lib.hid (show res = false from hS)
    clear hS
    go_enter Try.func84, Try.ntmps84
    go_wp2_with fail
    refine HC.out.mono ?_
    rintro en w1 ⟨vd, vt, d, t, rfl, O1, O2, -, E1⟩
    clear O1 O2
    go_wp2_with fail
    go_ret
    exact ⟨ret_bool HV.out.symm, E0.trans E1⟩
  rw [ho] at hS HC
  have HS := Lib.hid (show res = (decide (d0.length ≤ 8) && decide (t0.length ≤ 10) && okTo 0 7 ls d0 d0.length && okTo 1 60 ls t0 t0.length) from hS)
  clear hS ho
  go_enter Try.func84, Try.ntmps84
  go_wp2_with fail
  refine HC.out.mono ?_
  rintro en w1 ⟨vd, vt, d, t, rfl, O1, O2, hdt, E1⟩
  have hdt := hdt _ rfl
  injection hdt with e1 e2
  subst e1; subst e2
  obtain ⟨Ad, cd, rfl⟩ := own_slice2 O1
  obtain ⟨At, ct, rfl⟩ := own_slice2 O2
  have HD := Lib.hid O1
  have HT := Lib.hid O2
  have HE := Lib.hid (E0.trans E1)
  have HB := Lib.hid (hB.ext E1)
  clear O1 O2 E0 E1 hB HC
  have c1 : w1.cell? ⟨w.heap.size, 1, none⟩ = some (.int .i64 ls) := HB.out.cell (i := 1) (by simp)
  by_cases hd8 : d0.length ≤ 8
  · by_cases ht10 : t0.length ≤ 10
    · have q1 : ¬ (8 : Int) < (d0.length : Int) := by omega
      have q2 : ¬ (10 : Int) < (t0.length : Int) := by omega
      have HS2 := Lib.hid (show res = (okTo 0 7 ls d0 d0.length && okTo 1 60 ls t0 t0.length) by rw [HS.out, decide_eq_true hd8, decide_eq_true ht10]; simp)
      clear HS
      go_wp2_with fail
      go_loopw [6] (fun iv wr => ∃ i n : Nat, iv = .int .i64 i ∧ i ≤ d0.length ∧ okTo 0 7 ls d0 i = true ∧ wr = w1.drewN n) (fun iv _ => d0.length - (intOf iv).toNat)
      case atStart => exact ⟨0, 0, rfl, Nat.zero_le _, rfl, rfl⟩
      case round =>
        obtain ⟨i, n, rfl, hi, hok, rfl⟩ := hrel
        have HOK := Lib.hid hok
        clear hok
        by_cases hlt : i < d0.length
        · have hlt2 : (i : Int) < (d0.length : Int) := by omega
          obtain ⟨g, cap, cs, he, hg, hc1, hc2, hBg, hl, htk⟩ := own_form HD.out (by omega)
          injection he with he _ hcc
          subst he; subst hcc
          have hcl : ∀ j u, (prs d0)[j]? = some u → w1.cell? ⟨g, j, none⟩ = some u := fun j u hu => by
            have := (Rd.take_ (n := d0.length * 2) hBg htk) (by intro e; rw [e] at hu; simp at hu)
            obtain ⟨b', o', e', h'⟩ := this
            injection e' with e'
            injection e' with e1 e2 _
            subst e1; subst e2
            rw [← Nat.zero_add j]; exact h' j u hu
          obtain ⟨p0, p1⟩ := prs_at d0 i hlt
          have k0 := hcl _ _ p0
          have k1 := hcl _ _ p1
          have hA : okAt 0 7 ls d0 i = (inB ((d0.getD i (0, 0)).1 : Int) 0 7 && inB ((d0.getD i (0, 0)).2 : Int) 1 (ls - 1) && (decide (i = 0) || decide ((d0.getD (i - 1) (0, 0)).1 < (d0.getD i (0, 0)).1))) := rfl
          have HCL := Lib.hid hcl
          clear hcl p0 p1 hBg hl htk
          generalize hx : (d0.getD i (0, 0)).1 = x at k0 hA
          generalize (d0.getD i (0, 0)).2 = y at k1 hA
          have HOKA := Lib.hid hA
          have HXX := Lib.hid hx
          clear hA hx
          rcases ha1 : inB (x : Int) 0 7 with _ | _
          · have HV := Lib.hid (show res = false by rw [HS2.out, okTo_false (by rw [HOKA.out, ha1]; rfl) hlt]; rfl)
            go_wp2_with fail
            go_quiet ((exact (spec_l01In _ _ _ _).mono (fun _ _ h => ⟨h.1, _, h.2.symm⟩)))
            go_wp2_with fail
            go_ret
            exact ⟨ret_bool HV.out.symm, (HE.out.drewN _).drewN _⟩
          rcases ha2 : inB (y : Int) 1 (ls - 1) with _ | _
          · have HV := Lib.hid (show res = false by rw [HS2.out, okTo_false (by rw [HOKA.out, ha1, ha2]; rfl) hlt]; rfl)
            have w0 : IntKind.i64.wrap (ls - 1) = ls - 1 := by rw [IntKind.wrap_i64]; omega
            go_wp2_with fail
            go_quiet ((exact (spec_l01In _ _ _ _).mono (fun _ _ h => ⟨h.1, _, h.2.symm⟩)))
            go_wp2_with fail
            go_ret
            exact ⟨ret_bool HV.out.symm, (HE.out.drewN _).drewN _⟩
          by_cases hi0 : i = 0
          · subst hi0
            have HV := Lib.hid (show okTo 0 7 ls d0 (0 + 1) = true by rw [okTo_succ, HOK.out, HOKA.out, ha1, ha2]; rfl)
            have w0 : IntKind.i64.wrap (ls - 1) = ls - 1 := by rw [IntKind.wrap_i64]; omega
            have HN := Lib.hid (show 0 + 1 ≤ d0.length by omega)
            go_wp2_with fail
            go_quiet ((exact (spec_l01In _ _ _ _).mono (fun _ _ h => ⟨h.1, _, h.2.symm⟩)))
            go_wp2_with fail
            go_roundw
            case rel => exact ⟨0 + 1, n + nq, by first | rfl | go_num, HN.out, HV.out, by first | rfl | rw [World.drewN_drewN]⟩
            case measure => simp [intOf]; omega
          · obtain ⟨j, rfl⟩ : ∃ j, i = j + 1 := ⟨i - 1, by omega⟩
            obtain ⟨p2, p3⟩ := prs_at d0 j (by omega)
            have k2 := HCL.out _ _ p2
            have hB' : (d0.getD (j + 1 - 1) (0, 0)).1 = (d0.getD j (0, 0)).1 := by rw [Nat.add_sub_cancel]
            generalize (d0.getD j (0, 0)).1 = z at k2 hB'
            clear p2 p3 hi0
            have w0 : IntKind.i64.wrap (ls - 1) = ls - 1 := by rw [IntKind.wrap_i64]; omega
            have w2 : IntKind.i64.wrap ((j : Int) + 1 - 1) = (j : Int) := by rw [IntKind.wrap_i64]; omega
            have w3 : (j : Int) < (d0.length : Int) := by omega
            have w4 : (0 : Int) < (j : Int) + 1 := by omega
            by_cases hzx : z < x
            · have hzI : ¬ (x : Int) ≤ (z : Int) := by omega
              have HV := Lib.hid (show okTo 0 7 ls d0 (j + 1 + 1) = true by rw [okTo_succ, HOK.out, HOKA.out, ha1, ha2, hB', decide_eq_true hzx]; simp)
              have HN := Lib.hid (show j + 1 + 1 ≤ d0.length by omega)
              clear hB' hzx
              go_wp2_with fail
              go_quiet ((exact (spec_l01In _ _ _ _).mono (fun _ _ h => ⟨h.1, _, h.2.symm⟩)))
              go_wp2_with fail
              go_roundw
              case rel => exact ⟨j + 1 + 1, n + nq, by first | rfl | go_num, HN.out, HV.out, by first | rfl | rw [World.drewN_drewN]⟩
              case measure => simp [intOf]; omega
            · have hzI : (x : Int) ≤ (z : Int) := by omega
              have HV := Lib.hid (show res = false by rw [HS2.out, okTo_false (k := j + 1) (by rw [HOKA.out, ha1, ha2, hB', decide_eq_false hzx]; simp) hlt]; rfl)
              clear hB' hzx
              go_wp2_with fail
              go_quiet ((exact (spec_l01In _ _ _ _).mono (fun _ _ h => ⟨h.1, _, h.2.symm⟩)))
              go_wp2_with fail
              go_ret
              exact ⟨ret_bool HV.out.symm, (HE.out.drewN _).drewN _⟩
        · have him : i = d0.length := by omega
          have HS3 := Lib.hid (show res = okTo 1 60 ls t0 t0.length by rw [HS2.out, ← him, HOK.out]; rfl)
          have hltI : ¬ (i : Int) < (d0.length : Int) := by omega
          generalize hN0 : w1.drewN n = w1'
          have HE' := Lib.hid (show Ext w w1' by rw [← hN0]; exact HE.out.drewN _)
          have c1' : w1'.cell? ⟨w.heap.size, 1, none⟩ = some (.int .i64 ls) := by rw [← hN0]; exact c1
          have HT' := Lib.hid (show w1'.ownsRow w.heap.size 132 2 (.slice At t0.length ct) t0.length (prs t0) by rw [← hN0]; exact own_drewN (own_base HT.out (by simp)) n)
          clear him hN0 HS2 HOK HD HT HE HB c1
          go_wp2_with fail
          go_loopw [7] (fun iv wr => ∃ i n : Nat, iv = .int .i64 i ∧ i ≤ t0.length ∧ okTo 1 60 ls t0 i = true ∧ wr = w1'.drewN n) (fun iv _ => t0.length - (intOf iv).toNat)
          case atStart => exact ⟨0, 0, rfl, Nat.zero_le _, rfl, rfl⟩
          case round =>
            clear hi hlt hltI
            obtain ⟨i, n, rfl, hi, hok, rfl⟩ := hrel
            have HOK := Lib.hid hok
            clear hok
            by_cases hlt : i < t0.length
            · have hlt2 : (i : Int) < (t0.length : Int) := by omega
              obtain ⟨g, cap, cs, he, hg, hc1, hc2, hBg, hl, htk⟩ := own_form HT'.out (by omega)
              injection he with he _ hcc
              subst he; subst hcc
              have hcl : ∀ j u, (prs t0)[j]? = some u → w1'.cell? ⟨g, j, none⟩ = some u := fun j u hu => by
                have := (Rd.take_ (n := t0.length * 2) hBg htk) (by intro e; rw [e] at hu; simp at hu)
                obtain ⟨b', o', e', h'⟩ := this
                injection e' with e'
                injection e' with e1 e2 _
                subst e1; subst e2
                rw [← Nat.zero_add j]; exact h' j u hu
              obtain ⟨p0, p1⟩ := prs_at t0 i hlt
              have k0 := hcl _ _ p0
              have k1 := hcl _ _ p1
              have hA : okAt 1 60 ls t0 i = (inB ((t0.getD i (0, 0)).1 : Int) 1 60 && inB ((t0.getD i (0, 0)).2 : Int) 1 (ls - 1) && (decide (i = 0) || decide ((t0.getD (i - 1) (0, 0)).1 < (t0.getD i (0, 0)).1))) := rfl
              have HCL := Lib.hid hcl
              clear hcl p0 p1 hBg hl htk
              generalize hx : (t0.getD i (0, 0)).1 = x at k0 hA
              generalize (t0.getD i (0, 0)).2 = y at k1 hA
              have HOKA := Lib.hid hA
              have HXX := Lib.hid hx
              clear hA hx
              rcases ha1 : inB (x : Int) 1 60 with _ | _
              · have HV := Lib.hid (show res = false by rw [HS3.out, okTo_false (by rw [HOKA.out, ha1]; rfl) hlt])
                go_wp2_with fail
                go_quiet ((exact (spec_l01In _ _ _ _).mono (fun _ _ h => ⟨h.1, _, h.2.symm⟩)))
                go_wp2_with fail
                go_ret
                exact ⟨ret_bool HV.out.symm, (HE'.out.drewN _).drewN _⟩
              rcases ha2 : inB (y : Int) 1 (ls - 1) with _ | _
              · have HV := Lib.hid (show res = false by rw [HS3.out, okTo_false (by rw [HOKA.out, ha1, ha2]; rfl) hlt])
                have w0 : IntKind.i64.wrap (ls - 1) = ls - 1 := by rw [IntKind.wrap_i64]; omega
                go_wp2_with fail
                go_quiet ((exact (spec_l01In _ _ _ _).mono (fun _ _ h => ⟨h.1, _, h.2.symm⟩)))
                go_wp2_with fail
                go_ret
                exact ⟨ret_bool HV.out.symm, (HE'.out.drewN _).drewN _⟩
              by_cases hi0 : i = 0
              · subst hi0
                have HV := Lib.hid (show okTo 1 60 ls t0 (0 + 1) = true by rw [okTo_succ, HOK.out, HOKA.out, ha1, ha2]; rfl)
                have w0 : IntKind.i64.wrap (ls - 1) = ls - 1 := by rw [IntKind.wrap_i64]; omega
                have HN := Lib.hid (show 0 + 1 ≤ t0.length by omega)
                go_wp2_with fail
                go_quiet ((exact (spec_l01In _ _ _ _).mono (fun _ _ h => ⟨h.1, _, h.2.symm⟩)))
                go_wp2_with fail
                go_roundw
                case rel => exact ⟨0 + 1, n + nq, by first | rfl | go_num, HN.out, HV.out, by first | rfl | rw [World.drewN_drewN]⟩
                case measure => simp [intOf]; omega
              · obtain ⟨j, rfl⟩ : ∃ j, i = j + 1 := ⟨i - 1, by omega⟩
                obtain ⟨p2, p3⟩ := prs_at t0 j (by omega)
                have k2 := HCL.out _ _ p2
                have hB' : (t0.getD (j + 1 - 1) (0, 0)).1 = (t0.getD j (0, 0)).1 := by rw [Nat.add_sub_cancel]
                generalize (t0.getD j (0, 0)).1 = z at k2 hB'
                clear p2 p3 hi0
                have w0 : IntKind.i64.wrap (ls - 1) = ls - 1 := by rw [IntKind.wrap_i64]; omega
                have w2 : IntKind.i64.wrap ((j : Int) + 1 - 1) = (j : Int) := by rw [IntKind.wrap_i64]; omega
                have w3 : (j : Int) < (t0.length : Int) := by omega
                have w4 : (0 : Int) < (j : Int) + 1 := by omega
                by_cases hzx : z < x
                · have hzI : ¬ (x : Int) ≤ (z : Int) := by omega
                  have HV := Lib.hid (show okTo 1 60 ls t0 (j + 1 + 1) = true by rw [okTo_succ, HOK.out, HOKA.out, ha1, ha2, hB', decide_eq_true hzx]; simp)
                  have HN := Lib.hid (show j + 1 + 1 ≤ t0.length by omega)
                  clear hB' hzx
                  go_wp2_with fail
                  go_quiet ((exact (spec_l01In _ _ _ _).mono (fun _ _ h => ⟨h.1, _, h.2.symm⟩)))
                  go_wp2_with fail
                  go_roundw
                  case rel => exact ⟨j + 1 + 1, n + nq, by first | rfl | go_num, HN.out, HV.out, by first | rfl | rw [World.drewN_drewN]⟩
                  case measure => simp [intOf]; omega
                · have hzI : (x : Int) ≤ (z : Int) := by omega
                  have HV := Lib.hid (show res = false by rw [HS3.out, okTo_false (k := j + 1) (by rw [HOKA.out, ha1, ha2, hB', decide_eq_false hzx]; simp) hlt])
                  clear hB' hzx
                  go_wp2_with fail
                  go_quiet ((exact (spec_l01In _ _ _ _).mono (fun _ _ h => ⟨h.1, _, h.2.symm⟩)))
                  go_wp2_with fail
                  go_ret
                  exact ⟨ret_bool HV.out.symm, (HE'.out.drewN _).drewN _⟩
            · have him : i = t0.length := by omega
              have HV := Lib.hid (show res = true by rw [HS3.out, ← him, HOK.out])
              have hltI : ¬ (i : Int) < (t0.length : Int) := by omega
              clear him
              go_wp2_with fail
              go_ret
              exact ⟨ret_bool HV.out.symm, HE'.out.drewN _⟩
    · have q1 : ¬ (8 : Int) < (d0.length : Int) := by omega
      have q2 : (10 : Int) < (t0.length : Int) := by omega
      have HV := Lib.hid (show res = false by rw [HS.out, decide_eq_false ht10]; simp)
      go_wp2_with fail
      go_ret
      exact ⟨ret_bool HV.out.symm, HE.out⟩
  · have q1 : (8 : Int) < (d0.length : Int) := by omega
    have HV := Lib.hid (show res = false by rw [HS.out, decide_eq_false hd8]; simp)
    go_wp2_with fail
    go_ret
    exact ⟨ret_bool HV.out.symm, HE.out⟩
end Go.Proofs.Yteaefjicpefgnaa
