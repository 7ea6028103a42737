/- The walk of the reference's LocksOK. -/
import Derived.Test.YtnbfjkebakaigaaLocks
namespace Go.Proofs.Ytnbfjkebakaigaa
open Go.RowKit Go.Deep
set_option linter.unusedVariables false
set_option maxRecDepth 100000
theorem any_take_false {l : List CLock} {k : Nat} {x : CLock} (hk : k ≤ l.length) (h : ∀ p, (hp : p < l.length) → p < k → lkBad x (l[p]'hp) = false) : (l.take k).any (lkBad x) = false := by
  rw [List.any_eq_false]
  intro y hy
  obtain ⟨p, hp, rfl⟩ := List.getElem_of_mem hy
  rw [List.length_take] at hp
  rw [List.getElem_take, h p (by omega) (by omega)]
  simp
theorem any_take_true {l : List CLock} {k p : Nat} {x : CLock} (hp : p < l.length) (hpk : p < k) (h : lkBad x l[p] = true) : (l.take k).any (lkBad x) = true := by
  rw [List.any_eq_true]
  refine ⟨l[p], ?_, h⟩
  rw [List.mem_take_iff_getElem]
  exact ⟨p, by omega, rfl⟩
theorem lkBad_eq (x y : CLock) : lkBad x y = (lkOne x y && (lkEq x y || (!(x.a == y.a) && !fitB x.d y.d))) := by
  unfold lkBad lkCl lkEq lkOne
  cases h1 : (x.a == y.a) <;> cases h2 : (x.b == y.b) <;> cases h3 : (x.c == y.c) <;> cases h4 : (x.d == y.d) <;> simp
theorem run_eql_Lock (x y : CLock) (W : World) : (binOp .eql 125 (.agg #[.int .i64 x.a, .int .i64 x.b, .int .i64 x.c, .int .i64 x.d]) (.agg #[.int .i64 y.a, .int .i64 y.b, .int .i64 y.c, .int .i64 y.d])).run Try.prog W = .ok (.bool (lkEq x y)) W := by
  obtain ⟨a, b, c, d⟩ := x
  obtain ⟨a', b', c', d'⟩ := y
  dsimp only [lkEq]
  by_cases h1 : a = a'
  · subst h1
    by_cases h2 : b = b'
    · subst h2
      by_cases h3 : c = c'
      · subst h3
        by_cases h4 : d = d'
        · subst h4
          go_simp
        · go_simp
      · go_simp
    · go_simp
  · go_simp
set_option maxHeartbeats 4000000 in
theorem spec_LocksOK (Ah : Option Addr) (nh ph : Nat) (Aq : Option Addr) (nq pq : Nat) (lh : List CLock) (lq : List CWait) (w : World) (hlh : lh.length = nh) (hlq : lq.length = nq) (hnh : nh ≤ 1099511627776) (hnq : nq ≤ 1099511627776)
    (hrh : Rd w Ah (lh.flatMap CLock.cs)) (hrq : Rd w Aq (lq.flatMap CWait.cs)) :
    Calls Try.prog 39 #[.agg #[.slice Ah nh ph, .slice Aq nq pq]] w fun e w' => e = .returned (.bool (locksB lh lq)) ∧ Ext w w' := by
  have HLh := Lib.hid hlh
  have HLq := Lib.hid hlq
  have hF : locksB lh lq = (heldB lh && decide (lh.length ≤ 60) && decide (lq.length ≤ 100) && lq.all waitB) := rfl
  rw [hlh, hlq] at hF
  generalize locksB lh lq = r at hF ⊢
  have HX := Lib.hid (Blk.new w 57 [.slice Ah nh ph, .slice Aq nq pq])
  have HE0 := Lib.hid (show Ext w (w.alloc (.cells #[.slice Ah nh ph, .slice Aq nq pq] 57)) from (by repeat (first | exact Ext.refl _ | assumption | refine Ext.alloc ?_ _ | refine Ext.drewN ?_ _ | refine Ext.drew ?_ | refine Ext.set ?_ (by dsimp only; omega) _ | refine Ext.trans ?_ (by assumption))))
  clear hlh hlq
  by_cases h60 : 60 < nh
  · have d6 : decide ((60 : Int) < (nh : Int)) = true := decide_eq_true (by omega)
    have HG := Lib.hid (show r = false by rw [hF, decide_eq_false (show ¬ nh ≤ 60 by omega)]; simp)
    clear hF
    go_enter Try.func39, Try.ntmps39
    go_wp2_with fail
    go_ret
    exact ⟨ret_bool HG.out.symm, HE0.out⟩
  have d6 : decide ((60 : Int) < (nh : Int)) = false := decide_eq_false (by omega)
  by_cases h100 : 100 < nq
  · have d7 : decide ((100 : Int) < (nq : Int)) = true := decide_eq_true (by omega)
    have HG := Lib.hid (show r = false by rw [hF, decide_eq_false (show ¬ nq ≤ 100 by omega)]; simp)
    clear hF
    go_enter Try.func39, Try.ntmps39
    go_wp2_with fail
    go_ret
    exact ⟨ret_bool HG.out.symm, HE0.out⟩
  have d7 : decide ((100 : Int) < (nq : Int)) = false := decide_eq_false (by omega)
  have HF := Lib.hid (show r = (heldB lh && lq.all waitB) by rw [hF, decide_eq_true (show nh ≤ 60 by omega), decide_eq_true (show nq ≤ 100 by omega)]; simp)
  clear hF
  go_enter Try.func39, Try.ntmps39
  go_wp2_with fail
  clear d6 d7
  generalize w.alloc (.cells #[.slice Ah nh ph, .slice Aq nq pq] 57) = w0 at HX HE0 ⊢
  go_loopw [3] (fun i wr => ∃ k : Nat, k ≤ nh ∧ i = .int .i64 k ∧ heldTo lh k ∧ Ext w0 wr) (fun i _ => nh - (intOf i).toNat)
  case atStart => exact ⟨0, Nat.zero_le _, rfl, heldTo_zero _, Ext.refl _⟩
  case round =>
    obtain ⟨k, hk, rfl, hT, hE⟩ := hrel
    have HT := Lib.hid hT
    have HE := Lib.hid hE
    clear hT hE
    obtain ⟨x0, x1⟩ := (HX.out.ext HE.out).cells2
    by_cases hlt : k < nh
    · have hkl : k < lh.length := by rw [HLh.out]; exact hlt
      have HRh := Lib.hid hrh
      obtain ⟨b, o, rfl, hc⟩ := (hrh.ext (HE0.out.trans HE.out)).flat CLock.len (by decide) hkl
      have c0 : wr.cell? ⟨b, o + k * 4, none⟩ = some (.int .i64 lh[k].a) := by exact hc 0 _ rfl
      have c1 : wr.cell? ⟨b, o + k * 4 + 1, none⟩ = some (.int .i64 lh[k].b) := by rw [Nat.add_assoc]; exact hc 1 _ rfl
      have c2 : wr.cell? ⟨b, o + k * 4 + 2, none⟩ = some (.int .i64 lh[k].c) := by rw [Nat.add_assoc]; exact hc 2 _ rfl
      have c3 : wr.cell? ⟨b, o + k * 4 + 3, none⟩ = some (.int .i64 lh[k].d) := by rw [Nat.add_assoc]; exact hc 3 _ rfl
      clear hc hrh
      go_wp2_with fail
      clear c0 c1 c2 c3 x0 x1
      have HE1 := Lib.hid (show Ext w0 (wr.alloc (.cells #[.int .i64 lh[k].a, .int .i64 lh[k].b, .int .i64 lh[k].c, .int .i64 lh[k].d] 125)) from HE.out.alloc _)
      have HA : Hid (Blk (wr.alloc (.cells #[.int .i64 lh[k].a, .int .i64 lh[k].b, .int .i64 lh[k].c, .int .i64 lh[k].d] 125)) wr.heap.size 125 [.int .i64 lh[k].a, .int .i64 lh[k].b, .int .i64 lh[k].c, .int .i64 lh[k].d]) := Blk.new _ _ _
      generalize wr.alloc (.cells #[.int .i64 lh[k].a, .int .i64 lh[k].b, .int .i64 lh[k].c, .int .i64 lh[k].d] 125) = w1 at HA HE1 ⊢
      generalize wr.heap.size = ba at HA ⊢
      rcases hv : lockB lh[k] with _ | _
      · have HV := Lib.hid (heldB_not hkl (.inl hv))
        have HV2 := Lib.hid hv
        clear hv
        refine (spec_l06Ask lh[k] _).mono ?_
        rintro e w2 ⟨rfl, rfl⟩
        rw [HV2.out]
        go_wp2_with fail
        go_ret
        exact ⟨ret_bool (by rw [HF.out, HV.out]; rfl), HE0.out.trans HE1.out⟩
      · have HV2 := Lib.hid hv
        clear hv
        refine (spec_l06Ask lh[k] _).mono ?_
        rintro e w2 ⟨rfl, rfl⟩
        rw [HV2.out]
        go_wp2_with fail
        obtain ⟨wo, rfl⟩ : ∃ wo : World, wo = wr := ⟨_, rfl⟩
        go_loopw [5] (fun i wr => ∃ q : Nat, q ≤ k ∧ i = .int .i64 q ∧ (∀ p, (hp : p < lh.length) → p < q → lkBad lh[k] (lh[p]'hp) = false) ∧ Ext w1 wr) (fun i _ => k - (intOf i).toNat)
        case atStart => exact ⟨0, Nat.zero_le _, rfl, fun p _ h => absurd h (Nat.not_lt_zero _), Ext.refl _⟩
        case round =>
          obtain ⟨q, hqk, rfl, hP, hE2⟩ := hrel
          have HP := Lib.hid hP
          have HE2 := Lib.hid hE2
          clear hP hE2
          by_cases hlq : q < k
          · have hql : q < lh.length := by omega
            obtain ⟨b', o', e', hc⟩ := (HRh.out.ext (HE0.out.trans (HE1.out.trans HE2.out))).flat CLock.len (by decide) hql
            injection e' with e'
            injection e' with e1 e2 _
            subst e1; subst e2
            have c0 : wr.cell? ⟨b, o + q * 4, none⟩ = some (.int .i64 lh[q].a) := by exact hc 0 _ rfl
            have c1 : wr.cell? ⟨b, o + q * 4 + 1, none⟩ = some (.int .i64 lh[q].b) := by rw [Nat.add_assoc]; exact hc 1 _ rfl
            have c2 : wr.cell? ⟨b, o + q * 4 + 2, none⟩ = some (.int .i64 lh[q].c) := by rw [Nat.add_assoc]; exact hc 2 _ rfl
            have c3 : wr.cell? ⟨b, o + q * 4 + 3, none⟩ = some (.int .i64 lh[q].d) := by rw [Nat.add_assoc]; exact hc 3 _ rfl
            clear hc
            obtain ⟨x0, x1⟩ := (HX.out.ext (HE1.out.trans HE2.out)).cells2
            obtain ⟨y0, y1, y2, y3⟩ := ((HA.out.ext HE2.out).alloc (.cells #[.int .i64 lh[q].a, .int .i64 lh[q].b, .int .i64 lh[q].c, .int .i64 lh[q].d] 125)).cells4
            have hlI : (q : Int) < (nh : Int) := by omega
            have hlN : q < nh := by omega
            have heq := run_eql_Lock lh[k] lh[q]
            have hbad := lkBad_eq lh[k] lh[q]
            rcases g1 : (lh[k].b == lh[q].b) with _ | _
            · have HBD := Lib.hid (hbad.trans (by unfold lkOne; rw [g1]; try rfl))
              clear hbad
              go_wp2_with fail
              clear x0 x1 y0 y1 y2 y3 c0 c1 c2 c3 heq g1
              go_roundw
              case rel => exact ⟨q + 1, by omega, by go_num, fun p hp hpq => by
                rcases Nat.lt_or_ge p q with h | h
                · exact HP.out p hp h
                · have : p = q := by omega
                  subst this; exact HBD.out, (HE2.out.alloc _)⟩
              case measure => simp [intOf]; omega
            rcases g2 : (lh[k].c == lh[q].c) with _ | _
            · have HBD := Lib.hid (hbad.trans (by unfold lkOne; rw [g1, g2]; try rfl))
              clear hbad
              go_wp2_with fail
              clear x0 x1 y0 y1 y2 y3 c0 c1 c2 c3 heq g1 g2
              go_roundw
              case rel => exact ⟨q + 1, by omega, by go_num, fun p hp hpq => by
                rcases Nat.lt_or_ge p q with h | h
                · exact HP.out p hp h
                · have : p = q := by omega
                  subst this; exact HBD.out, (HE2.out.alloc _)⟩
              case measure => simp [intOf]; omega
            rw [show lkOne lh[k] lh[q] = true by unfold lkOne; rw [g1, g2]; rfl, Bool.true_and] at hbad
            rcases g3 : lkEq lh[k] lh[q] with _ | _
            · rw [g3] at heq
              rcases g4 : (lh[k].a == lh[q].a) with _ | _
              · have g5 : (lh[k].a != lh[q].a) = true := by unfold bne; rw [g4]; rfl
                have HM := Lib.hid (fun W => spec_l06Fit lh[k].d lh[q].d W)
                rcases g6 : fitB lh[k].d lh[q].d with _ | _
                · rw [g6] at HM
                  have HV := Lib.hid (heldB_not hkl (.inr (any_take_true hql hlq (hbad.trans (by rw [g3, g4, g6]; try rfl)))))
                  clear hbad
                  go_wp2_with fail
                  refine (HM.out _).mono ?_
                  rintro e w2 ⟨rfl, rfl⟩
                  go_wp2_with fail
                  go_ret
                  exact ⟨ret_bool (by rw [HF.out, HV.out]; rfl), HE0.out.trans (HE1.out.trans (HE2.out.alloc _))⟩
                · rw [g6] at HM
                  have HBD := Lib.hid (hbad.trans (by rw [g3, g4, g6]; try rfl))
                  clear hbad
                  go_wp2_with fail
                  refine (HM.out _).mono ?_
                  rintro e w2 ⟨rfl, rfl⟩
                  go_wp2_with fail
                  clear x0 x1 y0 y1 y2 y3 c0 c1 c2 c3 heq g1 g2 g4 g5
                  go_roundw
                  case rel => exact ⟨q + 1, by omega, by go_num, fun p hp hpq => by
                    rcases Nat.lt_or_ge p q with h | h
                    · exact HP.out p hp h
                    · have : p = q := by omega
                      subst this; exact HBD.out, (HE2.out.alloc _)⟩
                  case measure => simp [intOf]; omega
              · have g5 : (lh[k].a != lh[q].a) = false := by unfold bne; rw [g4]; rfl
                have HBD := Lib.hid (hbad.trans (by rw [g3, g4]; try rfl))
                clear hbad
                go_wp2_with fail
                clear x0 x1 y0 y1 y2 y3 c0 c1 c2 c3 heq g1 g2 g4 g5
                go_roundw
                case rel => exact ⟨q + 1, by omega, by go_num, fun p hp hpq => by
                  rcases Nat.lt_or_ge p q with h | h
                  · exact HP.out p hp h
                  · have : p = q := by omega
                    subst this; exact HBD.out, (HE2.out.alloc _)⟩
                case measure => simp [intOf]; omega
            · rw [g3] at heq
              have HV := Lib.hid (heldB_not hkl (.inr (any_take_true hql hlq (hbad.trans (by rw [g3]; try rfl)))))
              clear hbad
              go_wp2_with fail
              go_ret
              exact ⟨ret_bool (by rw [HF.out, HV.out]; rfl), HE0.out.trans (HE1.out.trans (HE2.out.alloc _))⟩
          · have hqk2 : q = k := by omega
            have HU := Lib.hid (any_take_false (x := lh[k]) (Nat.le_of_lt hkl) (fun p hp hpk => HP.out p hp (by omega)))
            have hlI : ¬ (q : Int) < (k : Int) := by omega
            go_wp2_with fail
            go_roundw
            case rel => exact ⟨k + 1, by omega, by go_num, heldTo_succ HT.out hkl HV2.out HU.out, HE1.out.trans HE2.out⟩
            case measure => simp [intOf]; omega
    · have hk2 : k = nh := by omega
      have HV := Lib.hid (heldB_all (fun i hi hik => HT.out i hi (by rw [HLh.out] at hik; omega)))
      subst hk2
      clear hlt
      go_wp2_with fail
      clear x0 x1
      obtain ⟨wo, rfl⟩ : ∃ wo : World, wo = wr := ⟨_, rfl⟩
      go_loopw [7] (fun i wr => ∃ q : Nat, q ≤ nq ∧ i = .int .i64 q ∧ (∀ p, (hp : p < lq.length) → p < q → waitB (lq[p]'hp) = true) ∧ Ext w0 wr) (fun i _ => nq - (intOf i).toNat)
      case atStart => exact ⟨0, Nat.zero_le _, rfl, fun p _ h => absurd h (Nat.not_lt_zero _), HE.out⟩
      case round =>
        obtain ⟨q, hq, rfl, hP, hE2⟩ := hrel
        have HP := Lib.hid hP
        have HE2 := Lib.hid hE2
        clear hP hE2
        obtain ⟨x0, x1⟩ := (HX.out.ext HE2.out).cells2
        by_cases hlt : q < nq
        · have hql : q < lq.length := by rw [HLq.out]; exact hlt
          obtain ⟨b, o, rfl, hc⟩ := (hrq.ext (HE0.out.trans HE2.out)).flat CWait.len (by decide) hql
          have c0 : wr.cell? ⟨b, o + q * 2, none⟩ = some (.int .i64 lq[q].a) := by exact hc 0 _ rfl
          have c1 : wr.cell? ⟨b, o + q * 2 + 1, none⟩ = some (.int .i64 lq[q].b) := by rw [Nat.add_assoc]; exact hc 1 _ rfl
          clear hc
          have hW : waitB lq[q] = (inB lq[q].a 1 60 && inB lq[q].b 1 60 && !(lq[q].a == lq[q].b)) := rfl
          have HA := Lib.hid (fun W => spec_l01In lq[q].a 1 60 W)
          have HB := Lib.hid (fun W => spec_l01In lq[q].b 1 60 W)
          rcases g1 : inB lq[q].a 1 60 with _ | _
          · rw [g1] at HA
            have HV2 := Lib.hid (show lq.all waitB = false from List.all_eq_false.2 ⟨_, List.getElem_mem hql, by rw [hW, g1]; simp⟩)
            clear hW g1
            go_wp2_with fail
            refine (HA.out _).mono ?_
            rintro e w2 ⟨rfl, rfl⟩
            go_wp2_with fail
            go_ret
            exact ⟨ret_bool (by rw [HF.out, HV2.out]; simp), HE0.out.trans (HE2.out.alloc _)⟩
          rcases g2 : inB lq[q].b 1 60 with _ | _
          · rw [g1] at HA
            rw [g2] at HB
            have HV2 := Lib.hid (show lq.all waitB = false from List.all_eq_false.2 ⟨_, List.getElem_mem hql, by rw [hW, g1, g2]; simp⟩)
            clear hW g1 g2
            go_wp2_with fail
            refine (HA.out _).mono ?_
            rintro e w2 ⟨rfl, rfl⟩
            go_wp2_with fail
            refine (HB.out _).mono ?_
            rintro e w2 ⟨rfl, rfl⟩
            go_wp2_with fail
            go_ret
            exact ⟨ret_bool (by rw [HF.out, HV2.out]; simp), HE0.out.trans (HE2.out.alloc _)⟩
          rw [g1] at HA
          rw [g2] at HB
          rcases g3 : (lq[q].a == lq[q].b) with _ | _
          · have HV2 := Lib.hid (show waitB lq[q] = true by rw [hW, g1, g2, g3]; rfl)
            clear hW g1 g2
            go_wp2_with fail
            refine (HA.out _).mono ?_
            rintro e w2 ⟨rfl, rfl⟩
            go_wp2_with fail
            refine (HB.out _).mono ?_
            rintro e w2 ⟨rfl, rfl⟩
            go_wp2_with fail
            clear c0 c1 x0 x1 g3
            go_roundw
            case rel => exact ⟨q + 1, by omega, by go_num, fun p hp hpq => by
              rcases Nat.lt_or_ge p q with h | h
              · exact HP.out p hp h
              · have : p = q := by omega
                subst this; exact HV2.out, HE2.out.alloc _⟩
            case measure => simp [intOf]; omega
          · have HV2 := Lib.hid (show lq.all waitB = false from List.all_eq_false.2 ⟨_, List.getElem_mem hql, by rw [hW, g1, g2, g3]; simp⟩)
            clear hW g1 g2
            go_wp2_with fail
            refine (HA.out _).mono ?_
            rintro e w2 ⟨rfl, rfl⟩
            go_wp2_with fail
            refine (HB.out _).mono ?_
            rintro e w2 ⟨rfl, rfl⟩
            go_wp2_with fail
            go_ret
            exact ⟨ret_bool (by rw [HF.out, HV2.out]; simp), HE0.out.trans (HE2.out.alloc _)⟩
        · have HV2 := Lib.hid (show lq.all waitB = true from List.all_eq_true.2 fun x hx => by
            obtain ⟨p, hp, rfl⟩ := List.getElem_of_mem hx
            exact HP.out p hp (by rw [HLq.out] at hp; omega))
          go_wp2_with fail
          go_ret
          exact ⟨ret_bool (by rw [HF.out, HV.out, HV2.out]; rfl), HE0.out.trans HE2.out⟩
end Go.Proofs.Ytnbfjkebakaigaa
