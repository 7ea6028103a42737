/- The walks of what a transaction holds (printed by gen_locks3.py). -/
import Derived.Test.YtnbfjkebakaigaaLocks2
namespace Go.Proofs.Ytnbfjkebakaigaa
open Go.RowKit Go.Deep
set_option linter.unusedVariables false
set_option maxRecDepth 100000
/-- who holds the one has the other -/
def covB (a b : Int) : Bool := a == b || a == 4 || b == 1
def hasT (x h : CLock) : Bool := h.a == x.a && (lkOne h x && covB h.d x.d)
theorem spec_l06Covers (a b : Int) (w : World) : Calls Try.prog 157 #[.int .i64 a, .int .i64 b] w fun e w' => e = .returned (.bool (covB a b)) ∧ w = w' := by
  have HF := Lib.hid (show covB a b = (a == b || a == 4 || b == 1) from rfl)
  generalize covB a b = r at HF ⊢
  go_enter Try.func157, Try.ntmps157
  go_wp2
  all_goals
    go_ret
    exact ⟨ret_bool (by rw [HF.out]; try simp [*]), rfl⟩
theorem call_has1 (args : Array Value) (W : World) : (callFunc 158 args).run Try.prog W = .ok (.enter 158 args) W := by kernel_rfl
set_option maxHeartbeats 2000000 in
theorem impl_has1 (h x : CLock) (c : Nat) (w : World) (hB : Blk w c 125 x.cs) : Calls Try.prog 158 #[.agg #[.int .i64 h.a, .int .i64 h.b, .int .i64 h.c, .int .i64 h.d], .pointer (some ⟨c, 0, none⟩)] w fun e w' => e = .returned (.bool (hasT x h)) ∧ Ext w w' := by
  have HO := Lib.hid (fun W => impl_isOneThing h x W)
  have hF : hasT x h = (h.a == x.a && (lkOne h x && (h.d == x.d || h.d == 4 || x.d == 1))) := rfl
  generalize hasT x h = r at hF ⊢
  generalize lkOne h x = t1 at hF HO
  have HB := Lib.hid (show Blk (w.alloc (.cells #[.int .i64 h.a, .int .i64 h.b, .int .i64 h.c, .int .i64 h.d] 125)) c 125 [.int .i64 x.a, .int .i64 x.b, .int .i64 x.c, .int .i64 x.d] from hB.alloc _)
  have HB0 := Lib.hid (Blk.new w 125 [.int .i64 h.a, .int .i64 h.b, .int .i64 h.c, .int .i64 h.d])
  obtain ⟨p0, p1, p2, p3⟩ := HB.out.cells4
  clear hB
  rcases g1 : (h.a == x.a) with _ | _
  · have HF := Lib.hid (show r = false by rw [hF, g1]; rfl)
    clear hF
    go_enter Try.func158, Try.ntmps158
    go_wp2_with fail
    go_ret
    exact ⟨ret_bool HF.out.symm, (by repeat (first | exact Ext.refl _ | assumption | refine Ext.alloc ?_ _ | refine Ext.drewN ?_ _ | refine Ext.drew ?_ | refine Ext.set ?_ (by dsimp only; omega) _ | refine Ext.trans ?_ (by assumption)))⟩
  rcases t1 with _ | _
  · have HF := Lib.hid (show r = false by rw [hF, g1]; rfl)
    clear hF
    go_enter Try.func158, Try.ntmps158
    go_wp2_with fail
    refine (HO.out _).mono ?_
    rintro e w1 ⟨rfl, E1⟩
    clear p0 p1 p2 p3
    go_wp2_with fail
    go_ret
    exact ⟨ret_bool HF.out.symm, (by repeat (first | exact Ext.refl _ | assumption | refine Ext.alloc ?_ _ | refine Ext.drewN ?_ _ | refine Ext.drew ?_ | refine Ext.set ?_ (by dsimp only; omega) _ | refine Ext.trans ?_ (by assumption)))⟩
  rw [g1, Bool.true_and, Bool.true_and] at hF
  rcases g2 : (h.d == 4) with _ | _
  · rcases g3 : (x.d == 1) with _ | _
    · rcases g4 : (h.d == x.d) with _ | _
      · have HF := Lib.hid (show r = false by rw [hF, g2, g3, g4]; try rfl)
        clear hF
        go_enter Try.func158, Try.ntmps158
        go_wp2_with fail
        refine (HO.out _).mono ?_
        rintro e w1 ⟨rfl, E1⟩
        clear p0 p1 p2 p3
        obtain ⟨p0, p1, p2, p3⟩ := (HB.out.ext E1).cells4
        obtain ⟨o0, o1, o2, o3⟩ := (HB0.out.ext E1).cells4
        go_wp2_with fail
        go_ret
        exact ⟨ret_bool HF.out.symm, (by repeat (first | exact Ext.refl _ | assumption | refine Ext.alloc ?_ _ | refine Ext.drewN ?_ _ | refine Ext.drew ?_ | refine Ext.set ?_ (by dsimp only; omega) _ | refine Ext.trans ?_ (by assumption)))⟩
      · have HF := Lib.hid (show r = true by rw [hF, g4, Bool.true_or, Bool.true_or]; try rfl)
        clear hF
        go_enter Try.func158, Try.ntmps158
        go_wp2_with fail
        refine (HO.out _).mono ?_
        rintro e w1 ⟨rfl, E1⟩
        clear p0 p1 p2 p3
        obtain ⟨p0, p1, p2, p3⟩ := (HB.out.ext E1).cells4
        obtain ⟨o0, o1, o2, o3⟩ := (HB0.out.ext E1).cells4
        go_wp2_with fail
        go_ret
        exact ⟨ret_bool HF.out.symm, (by repeat (first | exact Ext.refl _ | assumption | refine Ext.alloc ?_ _ | refine Ext.drewN ?_ _ | refine Ext.drew ?_ | refine Ext.set ?_ (by dsimp only; omega) _ | refine Ext.trans ?_ (by assumption)))⟩
    · have HF := Lib.hid (show r = true by rw [hF, g3, Bool.or_true]; try rfl)
      clear hF
      go_enter Try.func158, Try.ntmps158
      go_wp2_with fail
      refine (HO.out _).mono ?_
      rintro e w1 ⟨rfl, E1⟩
      clear p0 p1 p2 p3
      obtain ⟨p0, p1, p2, p3⟩ := (HB.out.ext E1).cells4
      obtain ⟨o0, o1, o2, o3⟩ := (HB0.out.ext E1).cells4
      go_wp2_with fail
      go_ret
      exact ⟨ret_bool HF.out.symm, (by repeat (first | exact Ext.refl _ | assumption | refine Ext.alloc ?_ _ | refine Ext.drewN ?_ _ | refine Ext.drew ?_ | refine Ext.set ?_ (by dsimp only; omega) _ | refine Ext.trans ?_ (by assumption)))⟩
  · have HF := Lib.hid (show r = true by rw [hF, g2, Bool.or_true, Bool.true_or]; try rfl)
    clear hF
    go_enter Try.func158, Try.ntmps158
    go_wp2_with fail
    refine (HO.out _).mono ?_
    rintro e w1 ⟨rfl, E1⟩
    clear p0 p1 p2 p3
    obtain ⟨p0, p1, p2, p3⟩ := (HB.out.ext E1).cells4
    obtain ⟨o0, o1, o2, o3⟩ := (HB0.out.ext E1).cells4
    go_wp2_with fail
    go_ret
    exact ⟨ret_bool HF.out.symm, (by repeat (first | exact Ext.refl _ | assumption | refine Ext.alloc ?_ _ | refine Ext.drewN ?_ _ | refine Ext.drew ?_ | refine Ext.set ?_ (by dsimp only; omega) _ | refine Ext.trans ?_ (by assumption)))⟩
set_option maxHeartbeats 1000000 in
theorem impl_has (Ah : Option Addr) (nh ph : Nat) (Aq : Option Addr) (nq pq : Nat) (lh : List CLock) (x : CLock) (w : World) (hlh : lh.length = nh) (hnh : nh ≤ 1099511627776) (hrh : Rd w Ah (lh.flatMap CLock.cs)) :
    Calls Try.prog 111 #[.agg #[.slice Ah nh ph, .slice Aq nq pq], .agg #[.int .i64 x.a, .int .i64 x.b, .int .i64 x.c, .int .i64 x.d]] w fun e w' => e = .returned (.bool (lh.any (hasT x))) ∧ Ext w w' := by
  have HE0 := Lib.hid (show Ext w ((w.alloc (.cells #[.slice Ah nh ph, .slice Aq nq pq] 57)).alloc (.cells #[.int .i64 x.a, .int .i64 x.b, .int .i64 x.c, .int .i64 x.d] 125)) from (by repeat (first | exact Ext.refl _ | assumption | refine Ext.alloc ?_ _ | refine Ext.drewN ?_ _ | refine Ext.drew ?_ | refine Ext.set ?_ (by dsimp only; omega) _ | refine Ext.trans ?_ (by assumption))))
  have hB := Blk.new (w.alloc (.cells #[.slice Ah nh ph, .slice Aq nq pq] 57)) 125 [.int .i64 x.a, .int .i64 x.b, .int .i64 x.c, .int .i64 x.d]
  rw [World.size_alloc] at hB
  have HB := Lib.hid hB
  have HC := Lib.hid (containsFunc_LockS1 158 (.pointer (some ⟨w.heap.size + 1, 0, none⟩)) (hasT x) call_has1 Ah nh ph lh _ (fun y hy W hW => impl_has1 y x (w.heap.size + 1) W (HB.out.ext hW)) hlh hnh (hrh.ext HE0.out))
  clear hB hlh hrh
  go_enter Try.func111, Try.ntmps111
  go_wp2_with fail
  refine HC.out.mono ?_
  rintro e w1 ⟨rfl, E1⟩
  go_wp2_with fail
  go_ret
  exact ⟨rfl, HE0.out.trans E1⟩
set_option maxHeartbeats 4000000 in
theorem spec_l06Holds (Ah : Option Addr) (nh ph : Nat) (Aq : Option Addr) (nq pq : Nat) (lh : List CLock) (x : CLock) (w : World) (hlh : lh.length = nh) (hnh : nh ≤ 1099511627776) (hrh : Rd w Ah (lh.flatMap CLock.cs)) :
    Calls Try.prog 110 #[.agg #[.slice Ah nh ph, .slice Aq nq pq], .int .i64 x.a, .int .i64 x.b, .int .i64 x.c, .int .i64 x.d] w fun e w' => e = .returned (.bool (lh.any (hasT x))) ∧ Ext w w' := by
  have HL := Lib.hid hlh
  have HR := Lib.hid hrh
  have HX := Lib.hid (Blk.new w 57 [.slice Ah nh ph, .slice Aq nq pq])
  have HE0 := Lib.hid (show Ext w (w.alloc (.cells #[.slice Ah nh ph, .slice Aq nq pq] 57)) from (by repeat (first | exact Ext.refl _ | assumption | refine Ext.alloc ?_ _ | refine Ext.drewN ?_ _ | refine Ext.drew ?_ | refine Ext.set ?_ (by dsimp only; omega) _ | refine Ext.trans ?_ (by assumption))))
  clear hlh hrh
  go_enter Try.func110, Try.ntmps110
  go_wp2_with fail
  generalize w.alloc (.cells #[.slice Ah nh ph, .slice Aq nq pq] 57) = w0 at HX HE0 ⊢
  go_loopw [11] (fun i wr => ∃ k : Nat, k ≤ nh ∧ i = .int .i64 k ∧ (∀ p, (hp : p < lh.length) → p < k → hasT x (lh[p]'hp) = false) ∧ Ext w0 wr) (fun i _ => nh - (intOf i).toNat)
  case atStart => exact ⟨0, Nat.zero_le _, rfl, fun p _ h => absurd h (Nat.not_lt_zero _), Ext.refl _⟩
  case round =>
    obtain ⟨k, hk, rfl, hP, hE⟩ := hrel
    have HP := Lib.hid hP
    have HE := Lib.hid hE
    clear hP hE
    obtain ⟨x0, x1⟩ := (HX.out.ext HE.out).cells2
    by_cases hlt : k < nh
    · have hkl : k < lh.length := by rw [HL.out]; exact hlt
      obtain ⟨b, o, rfl, hc⟩ := (HR.out.ext (HE0.out.trans HE.out)).flat CLock.len (by decide) hkl
      have c0 : wr.cell? ⟨b, o + k * 4, none⟩ = some (.int .i64 lh[k].a) := by exact hc 0 _ rfl
      have c1 : wr.cell? ⟨b, o + k * 4 + 1, none⟩ = some (.int .i64 lh[k].b) := by rw [Nat.add_assoc]; exact hc 1 _ rfl
      have c2 : wr.cell? ⟨b, o + k * 4 + 2, none⟩ = some (.int .i64 lh[k].c) := by rw [Nat.add_assoc]; exact hc 2 _ rfl
      have c3 : wr.cell? ⟨b, o + k * 4 + 3, none⟩ = some (.int .i64 lh[k].d) := by rw [Nat.add_assoc]; exact hc 3 _ rfl
      clear hc
      have hH : hasT x lh[k] = (lh[k].a == x.a && ((lh[k].b == x.b && lh[k].c == x.c) && covB lh[k].d x.d)) := rfl
      rcases g1 : (lh[k].a == x.a) with _ | _
      · have HBD := Lib.hid (show hasT x lh[k] = false by rw [hH, g1]; try rfl)
        clear hH
        go_wp2_with fail
        clear x0 x1 c0 c1 c2 c3
        go_roundw
        case rel => exact ⟨k + 1, by omega, by go_num, fun p hp hpq => by
          rcases Nat.lt_or_ge p k with h | h
          · exact HP.out p hp h
          · have : p = k := by omega
            subst this; exact HBD.out, HE.out.alloc _⟩
        case measure => simp [intOf]; omega
      rcases g2 : (lh[k].b == x.b) with _ | _
      · have HBD := Lib.hid (show hasT x lh[k] = false by rw [hH, g1, g2]; try rfl)
        clear hH
        go_wp2_with fail
        clear x0 x1 c0 c1 c2 c3
        go_roundw
        case rel => exact ⟨k + 1, by omega, by go_num, fun p hp hpq => by
          rcases Nat.lt_or_ge p k with h | h
          · exact HP.out p hp h
          · have : p = k := by omega
            subst this; exact HBD.out, HE.out.alloc _⟩
        case measure => simp [intOf]; omega
      rcases g3 : (lh[k].c == x.c) with _ | _
      · have HBD := Lib.hid (show hasT x lh[k] = false by rw [hH, g1, g2, g3]; try rfl)
        clear hH
        go_wp2_with fail
        clear x0 x1 c0 c1 c2 c3
        go_roundw
        case rel => exact ⟨k + 1, by omega, by go_num, fun p hp hpq => by
          rcases Nat.lt_or_ge p k with h | h
          · exact HP.out p hp h
          · have : p = k := by omega
            subst this; exact HBD.out, HE.out.alloc _⟩
        case measure => simp [intOf]; omega
      have HM := Lib.hid (fun W => spec_l06Covers lh[k].d x.d W)
      rcases g4 : covB lh[k].d x.d with _ | _
      · rw [g4] at HM
        have HBD := Lib.hid (show hasT x lh[k] = false by rw [hH, g1, g2, g3, g4]; try rfl)
        clear hH
        go_wp2_with fail
        refine (HM.out _).mono ?_
        rintro e w2 ⟨rfl, rfl⟩
        go_wp2_with fail
        clear x0 x1 c0 c1 c2 c3
        go_roundw
        case rel => exact ⟨k + 1, by omega, by go_num, fun p hp hpq => by
          rcases Nat.lt_or_ge p k with h | h
          · exact HP.out p hp h
          · have : p = k := by omega
            subst this; exact HBD.out, HE.out.alloc _⟩
        case measure => simp [intOf]; omega
      · rw [g4] at HM
        have HV := Lib.hid (show lh.any (hasT x) = true from List.any_eq_true.2 ⟨_, List.getElem_mem hkl, by rw [hH, g1, g2, g3, g4]; try rfl⟩)
        clear hH
        go_wp2_with fail
        refine (HM.out _).mono ?_
        rintro e w2 ⟨rfl, rfl⟩
        go_wp2_with fail
        go_ret
        exact ⟨ret_bool HV.out.symm, HE0.out.trans (HE.out.alloc _)⟩
    · have HV := Lib.hid (show lh.any (hasT x) = false from List.any_eq_false.2 fun y hy => by
        obtain ⟨p, hp, rfl⟩ := List.getElem_of_mem hy
        have h1 := HP.out p hp (by rw [HL.out] at hp; omega)
        rw [h1]; simp)
      go_wp2_with fail
      go_ret
      exact ⟨ret_bool HV.out.symm, HE0.out.trans HE.out⟩
def hlV (lh : List CLock) (lq : List CWait) (x : CLock) : Bool := locksB lh lq && lockB x && lh.any (hasT x)
def hlC (lh : List CLock) (lq : List CWait) (x : CLock) : Int := if locksB lh lq = false then 1 else if lockB x = false then 4 else 0
set_option maxHeartbeats 1000000 in
theorem impl_HoldsLock (Ah : Option Addr) (nh ph : Nat) (Aq : Option Addr) (nq pq : Nat) (lh : List CLock) (lq : List CWait) (x : CLock) (w : World) (hlh : lh.length = nh) (hlq : lq.length = nq) (hph : nh ≤ ph) (hnh : nh ≤ 1099511627776) (hnq : nq ≤ 1099511627776)
    (hrh : Rd w Ah (lh.flatMap CLock.cs)) (hrq : Rd w Aq (lq.flatMap CWait.cs)) :
    Calls Try.prog 44 #[.agg #[.slice Ah nh ph, .slice Aq nq pq], .int .i64 x.a, .int .i64 x.b, .int .i64 x.c, .int .i64 x.d] w fun e w' => e = .returned (.tuple #[.bool (hlV lh lq x), .int .i64 (hlC lh lq x)]) ∧ Ext w w' := by
  have E0 : Ext w ((w.alloc (.cells #[.slice Ah nh ph, .slice Aq nq pq] 57)).alloc (.cells #[.int .i64 x.a, .int .i64 x.b, .int .i64 x.c, .int .i64 x.d] 125)) := (by repeat (first | exact Ext.refl _ | assumption | refine Ext.alloc ?_ _ | refine Ext.drewN ?_ _ | refine Ext.drew ?_ | refine Ext.set ?_ (by dsimp only; omega) _ | refine Ext.trans ?_ (by assumption)))
  have hL := impl_LocksOK Ah nh ph Aq nq pq lh lq _ hlh hlq hph hnh hnq (hrh.ext E0) (hrq.ext E0)
  have hV : hlV lh lq x = (locksB lh lq && lockB x && lh.any (hasT x)) := rfl
  have hC : hlC lh lq x = if locksB lh lq = false then 1 else if lockB x = false then 4 else 0 := rfl
  generalize hlV lh lq x = rv at hV ⊢
  generalize hlC lh lq x = rc at hC ⊢
  have hX := (Blk.new w 57 [.slice Ah nh ph, .slice Aq nq pq]).alloc (.cells #[.int .i64 x.a, .int .i64 x.b, .int .i64 x.c, .int .i64 x.d] 125)
  have hY := Blk.new (w.alloc (.cells #[.slice Ah nh ph, .slice Aq nq pq] 57)) 125 [.int .i64 x.a, .int .i64 x.b, .int .i64 x.c, .int .i64 x.d]
  rw [World.size_alloc] at hY
  have HY := Lib.hid hY
  have HX := Lib.hid hX
  have HR := Lib.hid (hrh.ext E0)
  have HLh := Lib.hid hlh
  have HE0 := Lib.hid E0
  generalize locksB lh lq = t1 at hL hV hC
  have HL := Lib.hid hL
  clear hX hY hrh hrq hlh hlq E0 hL
  rcases t1 with _ | _
  · have HV := Lib.hid (show rv = false by rw [hV]; rfl)
    have HC := Lib.hid (show rc = 1 by rw [hC]; rfl)
    clear hV hC
    go_enter Try.func44, Try.ntmps44
    go_wp2_with fail
    refine HL.out.mono ?_
    rintro e w1 ⟨rfl, E1⟩
    go_wp2_with fail
    go_ret2
    exact ⟨by rw [HV.out, HC.out]; rfl, HE0.out.trans E1⟩
  have HM := Lib.hid (fun W => impl_lockOK x W)
  generalize lockB x = t2 at hV hC HM
  rcases t2 with _ | _
  · have HV := Lib.hid (show rv = false by rw [hV]; rfl)
    have HC := Lib.hid (show rc = 4 by rw [hC]; rfl)
    clear hV hC
    go_enter Try.func44, Try.ntmps44
    go_wp2_with fail
    refine HL.out.mono ?_
    rintro e w1 ⟨rfl, E1⟩
    obtain ⟨y0, y1, y2, y3⟩ := (HY.out.ext E1).cells4
    go_wp2_with fail
    refine (HM.out _).mono ?_
    rintro e w2 ⟨rfl, E2⟩
    go_wp2_with fail
    go_ret2
    exact ⟨by rw [HV.out, HC.out]; rfl, HE0.out.trans (E1.trans E2)⟩
  · have HV := Lib.hid (show rv = lh.any (hasT x) by rw [hV]; rfl)
    have HC := Lib.hid (show rc = 0 by rw [hC]; rfl)
    clear hV hC
    go_enter Try.func44, Try.ntmps44
    go_wp2_with fail
    refine HL.out.mono ?_
    rintro e w1 ⟨rfl, E1⟩
    obtain ⟨y0, y1, y2, y3⟩ := (HY.out.ext E1).cells4
    go_wp2_with fail
    refine (HM.out _).mono ?_
    rintro e w2 ⟨rfl, E2⟩
    have HE2 := Lib.hid (E1.trans E2)
    clear E1 E2 y0 y1 y2 y3
    obtain ⟨y0, y1, y2, y3⟩ := (HY.out.ext HE2.out).cells4
    obtain ⟨x0, x1⟩ := (HX.out.ext HE2.out).cells2
    go_wp2_with fail
    refine (impl_has Ah nh ph Aq nq pq lh x _ HLh.out hnh (HR.out.ext HE2.out)).mono ?_
    rintro e w3 ⟨rfl, E3⟩
    go_wp2_with fail
    go_ret2
    exact ⟨by rw [HV.out, HC.out]; rfl, HE0.out.trans (HE2.out.trans E3)⟩
set_option maxHeartbeats 1000000 in
theorem spec_HoldsLock (Ah : Option Addr) (nh ph : Nat) (Aq : Option Addr) (nq pq : Nat) (lh : List CLock) (lq : List CWait) (x : CLock) (w : World) (hlh : lh.length = nh) (hlq : lq.length = nq) (hph : nh ≤ ph) (hnh : nh ≤ 1099511627776) (hnq : nq ≤ 1099511627776)
    (hrh : Rd w Ah (lh.flatMap CLock.cs)) (hrq : Rd w Aq (lq.flatMap CWait.cs)) :
    Calls Try.prog 43 #[.agg #[.slice Ah nh ph, .slice Aq nq pq], .int .i64 x.a, .int .i64 x.b, .int .i64 x.c, .int .i64 x.d] w fun e w' => e = .returned (.tuple #[.bool (hlV lh lq x), .int .i64 (hlC lh lq x)]) ∧ Ext w w' := by
  have E0 : Ext w (w.alloc (.cells #[.slice Ah nh ph, .slice Aq nq pq] 57)) := (by repeat (first | exact Ext.refl _ | assumption | refine Ext.alloc ?_ _ | refine Ext.drewN ?_ _ | refine Ext.drew ?_ | refine Ext.set ?_ (by dsimp only; omega) _ | refine Ext.trans ?_ (by assumption)))
  have hL := spec_LocksOK Ah nh ph Aq nq pq lh lq _ hlh hlq hnh hnq (hrh.ext E0) (hrq.ext E0)
  have hV : hlV lh lq x = (locksB lh lq && lockB x && lh.any (hasT x)) := rfl
  have hC : hlC lh lq x = if locksB lh lq = false then 1 else if lockB x = false then 4 else 0 := rfl
  generalize hlV lh lq x = rv at hV ⊢
  generalize hlC lh lq x = rc at hC ⊢
  have hX := Blk.new w 57 [.slice Ah nh ph, .slice Aq nq pq]
  have HX := Lib.hid hX
  have HR := Lib.hid (hrh.ext E0)
  have HLh := Lib.hid hlh
  have HE0 := Lib.hid E0
  generalize locksB lh lq = t1 at hL hV hC
  have HL := Lib.hid hL
  clear hX  hrh hrq hlh hlq E0 hL
  rcases t1 with _ | _
  · have HV := Lib.hid (show rv = false by rw [hV]; rfl)
    have HC := Lib.hid (show rc = 1 by rw [hC]; rfl)
    clear hV hC
    go_enter Try.func43, Try.ntmps43
    go_wp2_with fail
    refine HL.out.mono ?_
    rintro e w1 ⟨rfl, E1⟩
    go_wp2_with fail
    go_ret2
    exact ⟨by rw [HV.out, HC.out]; rfl, HE0.out.trans E1⟩
  have HM := Lib.hid (fun W => spec_l06Ask x W)
  generalize lockB x = t2 at hV hC HM
  rcases t2 with _ | _
  · have HV := Lib.hid (show rv = false by rw [hV]; rfl)
    have HC := Lib.hid (show rc = 4 by rw [hC]; rfl)
    clear hV hC
    go_enter Try.func43, Try.ntmps43
    go_wp2_with fail
    refine HL.out.mono ?_
    rintro e w1 ⟨rfl, E1⟩
    skip
    go_wp2_with fail
    refine (HM.out _).mono ?_
    rintro e w2 ⟨rfl, rfl⟩
    go_wp2_with fail
    go_ret2
    exact ⟨by rw [HV.out, HC.out]; rfl, HE0.out.trans E1⟩
  · have HV := Lib.hid (show rv = lh.any (hasT x) by rw [hV]; rfl)
    have HC := Lib.hid (show rc = 0 by rw [hC]; rfl)
    clear hV hC
    go_enter Try.func43, Try.ntmps43
    go_wp2_with fail
    refine HL.out.mono ?_
    rintro e w1 ⟨rfl, E1⟩
    skip
    go_wp2_with fail
    refine (HM.out _).mono ?_
    rintro e w2 ⟨rfl, rfl⟩
    have HE2 := Lib.hid E1
    clear E1
    obtain ⟨x0, x1⟩ := (HX.out.ext HE2.out).cells2
    go_wp2_with fail
    refine (spec_l06Holds Ah nh ph Aq nq pq lh x _ HLh.out hnh (HR.out.ext HE2.out)).mono ?_
    rintro e w3 ⟨rfl, E3⟩
    go_wp2_with fail
    go_ret2
    exact ⟨by rw [HV.out, HC.out]; rfl, HE0.out.trans (HE2.out.trans E3)⟩
end Go.Proofs.Ytnbfjkebakaigaa
