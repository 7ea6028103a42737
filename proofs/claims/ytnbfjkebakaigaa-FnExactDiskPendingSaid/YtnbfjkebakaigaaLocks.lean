/- The walks of what is right of locks. -/
import Derived.Test.YtnbfjkebakaigaaInRange
import Derived.Test.YtnbfjkebakaigaaCompLocks
import Derived.Test.YtnbfjkebakaigaaFindLock
import Derived.Test.YtnbfjkebakaigaaFindWait
namespace Go.Proofs.Ytnbfjkebakaigaa
open Go.RowKit Go.Deep
set_option linter.unusedVariables false
set_option maxRecDepth 100000
/-- whether two modes fit -/
def fitB (a b : Int) : Bool := if a = 4 ∨ b = 4 then false else if a = 1 ∨ b = 1 then true else decide (a = b)
def lockB (x : CLock) : Bool := inB x.a 1 60 && inB x.b 1 3 && inB x.c (-1) 1000 && inB x.d 1 4 && (decide (x.c < 0) || decide (3 ≤ x.d))
theorem impl_isTx (n : Int) (w : World) : Calls Try.prog 108 #[.int .i64 n] w fun e w' => e = .returned (.bool (inB n 1 60)) ∧ w = w' := by
  have HI := Lib.hid (fun W => impl_inRange n 1 60 W)
  go_enter Try.func108, Try.ntmps108
  go_wp2_with fail
  refine (HI.out _).mono ?_
  rintro e w' ⟨rfl, rfl⟩
  go_wp2_with fail
  go_ret
  exact ⟨rfl, rfl⟩
theorem impl_isMode (n : Int) (w : World) : Calls Try.prog 151 #[.int .i64 n] w fun e w' => e = .returned (.bool (inB n 1 4)) ∧ w = w' := by
  have HI := Lib.hid (fun W => impl_inRange n 1 4 W)
  go_enter Try.func151, Try.ntmps151
  go_wp2_with fail
  refine (HI.out _).mono ?_
  rintro e w' ⟨rfl, rfl⟩
  go_wp2_with fail
  go_ret
  exact ⟨rfl, rfl⟩
theorem impl_modesFit (a b : Int) (w : World) : Calls Try.prog 154 #[.int .i64 a, .int .i64 b] w fun e w' => e = .returned (.bool (fitB a b)) ∧ w = w' := by
  have HF := Lib.hid (show fitB a b = if a = 4 ∨ b = 4 then false else if a = 1 ∨ b = 1 then true else decide (a = b) from rfl)
  generalize fitB a b = r at HF ⊢
  by_cases h1 : a = 4
  · subst h1
    go_enter Try.func154, Try.ntmps154
    go_wp2
    go_ret
    exact ⟨ret_bool (by rw [HF.out]; simp), rfl⟩
  by_cases h2 : b = 4
  · subst h2
    go_enter Try.func154, Try.ntmps154
    go_wp2
    go_ret
    exact ⟨ret_bool (by rw [HF.out]; simp), rfl⟩
  have d1 : (a != 4) = true := by rw [bne_iff_ne]; exact h1
  have d2 : (b != 4) = true := by rw [bne_iff_ne]; exact h2
  by_cases h3 : a = 1
  · subst h3
    go_enter Try.func154, Try.ntmps154
    go_wp2
    go_ret
    exact ⟨ret_bool (by rw [HF.out]; simp [h2]), rfl⟩
  have d3 : (a == 1) = false := beq_eq_false_iff_ne.2 h3
  by_cases h4 : b = 1
  · subst h4
    go_enter Try.func154, Try.ntmps154
    go_wp2
    go_ret
    exact ⟨ret_bool (by rw [HF.out]; simp [h1]), rfl⟩
  have d4 : (b == 1) = false := beq_eq_false_iff_ne.2 h4
  by_cases h5 : a = b
  · subst h5
    go_enter Try.func154, Try.ntmps154
    go_wp2
    go_ret
    exact ⟨ret_bool (by rw [HF.out]; simp [h1, h3]), rfl⟩
  have d5 : (a == b) = false := beq_eq_false_iff_ne.2 h5
  go_enter Try.func154, Try.ntmps154
  go_wp2
  go_ret
  exact ⟨ret_bool (by rw [HF.out]; simp [h1, h2, h3, h4, h5]), rfl⟩
theorem spec_l06Fit (a b : Int) (w : World) : Calls Try.prog 99 #[.int .i64 a, .int .i64 b] w fun e w' => e = .returned (.bool (fitB a b)) ∧ w = w' := by
  have HF := Lib.hid (show fitB a b = if a = 4 ∨ b = 4 then false else if a = 1 ∨ b = 1 then true else decide (a = b) from rfl)
  generalize fitB a b = r at HF ⊢
  by_cases h1 : a = 4
  · subst h1
    go_enter Try.func99, Try.ntmps99
    go_wp2
    go_ret
    exact ⟨ret_bool (by rw [HF.out]; simp), rfl⟩
  have d1 : (a == 4) = false := beq_eq_false_iff_ne.2 h1
  by_cases h2 : b = 4
  · subst h2
    go_enter Try.func99, Try.ntmps99
    go_wp2
    go_ret
    exact ⟨ret_bool (by rw [HF.out]; simp), rfl⟩
  have d2 : (b == 4) = false := beq_eq_false_iff_ne.2 h2
  by_cases h3 : a = 1
  · subst h3
    go_enter Try.func99, Try.ntmps99
    go_wp2
    go_ret
    exact ⟨ret_bool (by rw [HF.out]; simp [h2]), rfl⟩
  have d3 : (a == 1) = false := beq_eq_false_iff_ne.2 h3
  by_cases h4 : b = 1
  · subst h4
    go_enter Try.func99, Try.ntmps99
    go_wp2
    go_ret
    exact ⟨ret_bool (by rw [HF.out]; simp [h1]), rfl⟩
  have d4 : (b == 1) = false := beq_eq_false_iff_ne.2 h4
  by_cases h5 : a = b
  · subst h5
    go_enter Try.func99, Try.ntmps99
    go_wp2
    go_ret
    exact ⟨ret_bool (by rw [HF.out]; simp [h1, h3]), rfl⟩
  have d5 : (a == b) = false := beq_eq_false_iff_ne.2 h5
  go_enter Try.func99, Try.ntmps99
  go_wp2
  go_ret
  exact ⟨ret_bool (by rw [HF.out]; simp [h1, h2, h3, h4, h5]), rfl⟩
/-- a lock is right: where it fails first -/
theorem lockB_cases (x : CLock) (r : Bool) (hr : r = lockB x) : (inB x.a 1 60 = false ∧ r = false) ∨ (inB x.a 1 60 = true ∧ inB x.b 1 3 = false ∧ r = false) ∨ (inB x.a 1 60 = true ∧ inB x.b 1 3 = true ∧ inB x.c (-1) 1000 = false ∧ r = false) ∨
    (inB x.a 1 60 = true ∧ inB x.b 1 3 = true ∧ inB x.c (-1) 1000 = true ∧ inB x.d 1 4 = false ∧ r = false) ∨ (inB x.a 1 60 = true ∧ inB x.b 1 3 = true ∧ inB x.c (-1) 1000 = true ∧ inB x.d 1 4 = true ∧ -1 ≤ x.c ∧ x.c < 0 ∧ r = true) ∨
    (inB x.a 1 60 = true ∧ inB x.b 1 3 = true ∧ inB x.c (-1) 1000 = true ∧ inB x.d 1 4 = true ∧ ¬ x.c < 0 ∧ 3 ≤ x.d ∧ r = true) ∨ (inB x.a 1 60 = true ∧ inB x.b 1 3 = true ∧ inB x.c (-1) 1000 = true ∧ inB x.d 1 4 = true ∧ ¬ x.c < 0 ∧ ¬ 3 ≤ x.d ∧ r = false) := by
  subst hr
  unfold lockB
  rcases h1 : inB x.a 1 60 with _ | _
  · simp
  rcases h2 : inB x.b 1 3 with _ | _
  · simp
  rcases h3 : inB x.c (-1) 1000 with _ | _
  · simp
  have h3' := (inB_true h3).1
  rcases h4 : inB x.d 1 4 with _ | _
  · simp
  by_cases h5 : x.c < 0
  · simp [h5, h3']
  by_cases h6 : 3 ≤ x.d
  · simp [h5, h6]
  · simp [h5, h6]
set_option maxHeartbeats 1000000 in
theorem impl_lockOK (x : CLock) (w : World) : Calls Try.prog 102 #[.agg #[.int .i64 x.a, .int .i64 x.b, .int .i64 x.c, .int .i64 x.d]] w fun e w' => e = .returned (.bool (lockB x)) ∧ Ext w w' := by
  have hr := lockB_cases x _ rfl
  generalize lockB x = r at hr ⊢
  have HT := Lib.hid (fun W => impl_isTx x.a W)
  have HB := Lib.hid (fun W => impl_inRange x.b 1 3 W)
  have HC := Lib.hid (fun W => impl_inRange x.c (-1) 1000 W)
  have HD := Lib.hid (fun W => impl_isMode x.d W)
  generalize inB x.a 1 60 = t1 at hr HT
  generalize inB x.b 1 3 = t2 at hr HB
  generalize inB x.c (-1) 1000 = t3 at hr HC
  generalize inB x.d 1 4 = t4 at hr HD
  rcases hr with ⟨rfl, rfl⟩ | ⟨rfl, rfl, rfl⟩ | ⟨rfl, rfl, rfl, rfl⟩ | ⟨rfl, rfl, rfl, rfl, rfl⟩ | ⟨rfl, rfl, rfl, rfl, h0, h1, rfl⟩ | ⟨rfl, rfl, rfl, rfl, h1, h2, rfl⟩ | ⟨rfl, rfl, rfl, rfl, h1, h2, rfl⟩
  all_goals
    go_enter Try.func102, Try.ntmps102
    go_wp2_with (first | ((with_reducible refine (HT.out _).mono ?_); rintro e w' ⟨rfl, rfl⟩) | ((with_reducible refine (HB.out _).mono ?_); rintro e w' ⟨rfl, rfl⟩) | ((with_reducible refine (HC.out _).mono ?_); rintro e w' ⟨rfl, rfl⟩) | ((with_reducible refine (HD.out _).mono ?_); rintro e w' ⟨rfl, rfl⟩))
    go_ret
    refine ⟨?_, (by repeat (first | exact Ext.refl _ | assumption | refine Ext.alloc ?_ _ | refine Ext.drewN ?_ _ | refine Ext.drew ?_ | refine Ext.set ?_ (by dsimp only; omega) _ | refine Ext.trans ?_ (by assumption)))⟩
    first | rfl | exact ret_bool (by simp [h1, h2])
set_option maxHeartbeats 1000000 in
theorem spec_l06Ask (x : CLock) (w : World) : Calls Try.prog 98 #[.int .i64 x.a, .int .i64 x.b, .int .i64 x.c, .int .i64 x.d] w fun e w' => e = .returned (.bool (lockB x)) ∧ w = w' := by
  have hr := lockB_cases x _ rfl
  generalize lockB x = r at hr ⊢
  have HT := Lib.hid (fun W => spec_l01In x.a 1 60 W)
  have HB := Lib.hid (fun W => spec_l01In x.b 1 3 W)
  have HC := Lib.hid (fun W => spec_l01In x.c (-1) 1000 W)
  have HD := Lib.hid (fun W => spec_l01In x.d 1 4 W)
  generalize inB x.a 1 60 = t1 at hr HT
  generalize inB x.b 1 3 = t2 at hr HB
  generalize inB x.c (-1) 1000 = t3 at hr HC
  generalize inB x.d 1 4 = t4 at hr HD
  rcases hr with ⟨rfl, rfl⟩ | ⟨rfl, rfl, rfl⟩ | ⟨rfl, rfl, rfl, rfl⟩ | ⟨rfl, rfl, rfl, rfl, rfl⟩ | ⟨rfl, rfl, rfl, rfl, h0, h1, rfl⟩ | ⟨rfl, rfl, rfl, rfl, h1, h2, rfl⟩ | ⟨rfl, rfl, rfl, rfl, h1, h2, rfl⟩
  all_goals
    go_enter Try.func98, Try.ntmps98
    go_wp2_with (first | ((with_reducible refine (HT.out _).mono ?_); rintro e w' ⟨rfl, rfl⟩) | ((with_reducible refine (HB.out _).mono ?_); rintro e w' ⟨rfl, rfl⟩) | ((with_reducible refine (HC.out _).mono ?_); rintro e w' ⟨rfl, rfl⟩) | ((with_reducible refine (HD.out _).mono ?_); rintro e w' ⟨rfl, rfl⟩))
    go_ret
    refine ⟨?_, rfl⟩
    first | rfl | exact ret_bool (show (x.c == -1 || decide (3 ≤ x.d)) = true by rw [show x.c = -1 by omega]; rfl) | exact ret_bool (show (x.c == -1 || decide (3 ≤ x.d)) = true by simp [h2]) | exact ret_bool (show (x.c == -1 || decide (3 ≤ x.d)) = false by rw [beq_eq_false_iff_ne.2 (show x.c ≠ -1 by omega)]; simp [h2])
/-- one and the same lock -/
def lkEq (x y : CLock) : Bool := x.a == y.a && (x.b == y.b && (x.c == y.c && x.d == y.d))
/-- of one thing -/
def lkOne (x y : CLock) : Bool := x.b == y.b && x.c == y.c
/-- locks of two that do not fit -/
def lkCl (x y : CLock) : Bool := !(x.a == y.a) && lkOne x y && !fitB x.d y.d
def lkBad (x y : CLock) : Bool := lkEq x y || lkCl x y
theorem impl_isOneThing (x y : CLock) (w : World) : Calls Try.prog 153 #[.agg #[.int .i64 x.a, .int .i64 x.b, .int .i64 x.c, .int .i64 x.d], .agg #[.int .i64 y.a, .int .i64 y.b, .int .i64 y.c, .int .i64 y.d]] w fun e w' => e = .returned (.bool (lkOne x y)) ∧ Ext w w' := by
  have HF := Lib.hid (show lkOne x y = (x.b == y.b && x.c == y.c) from rfl)
  generalize lkOne x y = r at HF ⊢
  go_enter Try.func153, Try.ntmps153
  go_wp2
  all_goals
    go_ret
    exact ⟨ret_bool (by rw [HF.out]; simp [*]), (by repeat (first | exact Ext.refl _ | assumption | refine Ext.alloc ?_ _ | refine Ext.drewN ?_ _ | refine Ext.drew ?_ | refine Ext.set ?_ (by dsimp only; omega) _ | refine Ext.trans ?_ (by assumption)))⟩
set_option maxHeartbeats 1000000 in
theorem impl_clashes (x y : CLock) (w : World) : Calls Try.prog 105 #[.agg #[.int .i64 x.a, .int .i64 x.b, .int .i64 x.c, .int .i64 x.d], .agg #[.int .i64 y.a, .int .i64 y.b, .int .i64 y.c, .int .i64 y.d]] w fun e w' => e = .returned (.bool (lkCl x y)) ∧ Ext w w' := by
  have HO := Lib.hid (fun W => impl_isOneThing x y W)
  have HM := Lib.hid (fun W => impl_modesFit x.d y.d W)
  have hF : lkCl x y = (!(x.a == y.a) && lkOne x y && !fitB x.d y.d) := rfl
  generalize lkCl x y = r at hF ⊢
  generalize lkOne x y = t1 at hF HO
  generalize fitB x.d y.d = t2 at hF HM
  have hB2 := Blk.new (w.alloc (.cells #[.int .i64 x.a, .int .i64 x.b, .int .i64 x.c, .int .i64 x.d] 125)) 125 [.int .i64 y.a, .int .i64 y.b, .int .i64 y.c, .int .i64 y.d]
  rw [World.size_alloc] at hB2
  have HB1 := Lib.hid ((Blk.new w 125 [.int .i64 x.a, .int .i64 x.b, .int .i64 x.c, .int .i64 x.d]).alloc (.cells #[.int .i64 y.a, .int .i64 y.b, .int .i64 y.c, .int .i64 y.d] 125))
  have HB2 := Lib.hid hB2
  clear hB2
  by_cases h1 : x.a = y.a
  · have d1 : (x.a != y.a) = false := by rw [h1]; simp
    have HF := Lib.hid (show r = false by rw [hF, h1]; simp)
    clear hF h1
    go_enter Try.func105, Try.ntmps105
    go_wp2
    go_ret
    exact ⟨ret_bool HF.out.symm, (by repeat (first | exact Ext.refl _ | assumption | refine Ext.alloc ?_ _ | refine Ext.drewN ?_ _ | refine Ext.drew ?_ | refine Ext.set ?_ (by dsimp only; omega) _ | refine Ext.trans ?_ (by assumption)))⟩
  have d1 : (x.a != y.a) = true := by rw [bne_iff_ne]; exact h1
  rcases t1 with _ | _
  · have HF := Lib.hid (show r = false by rw [hF]; simp)
    clear hF h1
    go_enter Try.func105, Try.ntmps105
    go_wp2_with fail
    refine (HO.out _).mono ?_
    rintro e w1 ⟨rfl, E1⟩
    go_wp2_with fail
    go_ret
    exact ⟨ret_bool HF.out.symm, (by repeat (first | exact Ext.refl _ | assumption | refine Ext.alloc ?_ _ | refine Ext.drewN ?_ _ | refine Ext.drew ?_ | refine Ext.set ?_ (by dsimp only; omega) _ | refine Ext.trans ?_ (by assumption)))⟩
  · have HF := Lib.hid (show r = !t2 by rw [hF, beq_eq_false_iff_ne.2 h1]; simp)
    clear hF h1
    go_enter Try.func105, Try.ntmps105
    go_wp2_with fail
    refine (HO.out _).mono ?_
    rintro e w1 ⟨rfl, E1⟩
    obtain ⟨c0, c1, c2, c3⟩ := (HB1.out.ext E1).cells4
    obtain ⟨e0, e1, e2, e3⟩ := (HB2.out.ext E1).cells4
    go_wp2_with fail
    refine (HM.out _).mono ?_
    rintro e w2 ⟨rfl, rfl⟩
    go_wp2_with fail
    go_ret
    exact ⟨ret_bool HF.out.symm, (by repeat (first | exact Ext.refl _ | assumption | refine Ext.alloc ?_ _ | refine Ext.drewN ?_ _ | refine Ext.drew ?_ | refine Ext.set ?_ (by dsimp only; omega) _ | refine Ext.trans ?_ (by assumption)))⟩
/-- the test of the locks held before: y is the one that is looked at, in a box at c -/
theorem call_LocksOK1 (args : Array Value) (W : World) : (callFunc 104 args).run Try.prog W = .ok (.enter 104 args) W := by kernel_rfl
theorem call_LocksOK2 (args : Array Value) (W : World) : (callFunc 107 args).run Try.prog W = .ok (.enter 107 args) W := by kernel_rfl
set_option maxHeartbeats 1000000 in
theorem impl_LocksOK1 (x y : CLock) (c : Nat) (w : World) (hB : Blk w c 125 y.cs) : Calls Try.prog 104 #[.agg #[.int .i64 x.a, .int .i64 x.b, .int .i64 x.c, .int .i64 x.d], .pointer (some ⟨c, 0, none⟩)] w fun e w' => e = .returned (.bool (lkBad y x)) ∧ Ext w w' := by
  obtain ⟨a', b', c', d'⟩ := x
  obtain ⟨a, b, c1, d⟩ := y
  have HC := Lib.hid (fun W => impl_clashes ⟨a, b, c1, d⟩ ⟨a', b', c', d'⟩ W)
  have hF : lkBad ⟨a, b, c1, d⟩ ⟨a', b', c', d'⟩ = ((a == a' && (b == b' && (c1 == c' && d == d'))) || lkCl ⟨a, b, c1, d⟩ ⟨a', b', c', d'⟩) := rfl
  generalize lkBad ⟨a, b, c1, d⟩ ⟨a', b', c', d'⟩ = r at hF ⊢
  generalize lkCl ⟨a, b, c1, d⟩ ⟨a', b', c', d'⟩ = t1 at hF HC
  have HB := Lib.hid (show Blk (w.alloc (.cells #[.int .i64 a', .int .i64 b', .int .i64 c', .int .i64 d'] 125)) c 125 [.int .i64 a, .int .i64 b, .int .i64 c1, .int .i64 d] from hB.alloc _)
  clear hB
  obtain ⟨p0, p1, p2, p3⟩ := HB.out.cells4
  dsimp only at HC ⊢
  by_cases h1 : a = a'
  · subst h1
    by_cases h2 : b = b'
    · subst h2
      by_cases h3 : c1 = c'
      · subst h3
        by_cases h4 : d = d'
        · subst h4
          have HF := Lib.hid (show r = true by rw [hF]; simp)
          clear hF
          go_enter Try.func104, Try.ntmps104
          go_wp2_with fail
          go_ret
          exact ⟨ret_bool HF.out.symm, (by repeat (first | exact Ext.refl _ | assumption | refine Ext.alloc ?_ _ | refine Ext.drewN ?_ _ | refine Ext.drew ?_ | refine Ext.set ?_ (by dsimp only; omega) _ | refine Ext.trans ?_ (by assumption)))⟩
        · have HF := Lib.hid (show r = t1 by rw [hF]; simp [h4])
          clear hF
          go_enter Try.func104, Try.ntmps104
          go_wp2_with fail
          refine (HC.out _).mono ?_
          rintro e w1 ⟨rfl, E1⟩
          clear p0 p1 p2 p3
          go_wp2_with fail
          go_ret
          exact ⟨ret_bool HF.out.symm, (by repeat (first | exact Ext.refl _ | assumption | refine Ext.alloc ?_ _ | refine Ext.drewN ?_ _ | refine Ext.drew ?_ | refine Ext.set ?_ (by dsimp only; omega) _ | refine Ext.trans ?_ (by assumption)))⟩
      · have HF := Lib.hid (show r = t1 by rw [hF]; simp [h3])
        clear hF
        go_enter Try.func104, Try.ntmps104
        go_wp2_with fail
        refine (HC.out _).mono ?_
        rintro e w1 ⟨rfl, E1⟩
        clear p0 p1 p2 p3
        go_wp2_with fail
        go_ret
        exact ⟨ret_bool HF.out.symm, (by repeat (first | exact Ext.refl _ | assumption | refine Ext.alloc ?_ _ | refine Ext.drewN ?_ _ | refine Ext.drew ?_ | refine Ext.set ?_ (by dsimp only; omega) _ | refine Ext.trans ?_ (by assumption)))⟩
    · have HF := Lib.hid (show r = t1 by rw [hF]; simp [h2])
      clear hF
      go_enter Try.func104, Try.ntmps104
      go_wp2_with fail
      refine (HC.out _).mono ?_
      rintro e w1 ⟨rfl, E1⟩
      clear p0 p1 p2 p3
      go_wp2_with fail
      go_ret
      exact ⟨ret_bool HF.out.symm, (by repeat (first | exact Ext.refl _ | assumption | refine Ext.alloc ?_ _ | refine Ext.drewN ?_ _ | refine Ext.drew ?_ | refine Ext.set ?_ (by dsimp only; omega) _ | refine Ext.trans ?_ (by assumption)))⟩
  · have HF := Lib.hid (show r = t1 by rw [hF]; simp [h1])
    clear hF
    go_enter Try.func104, Try.ntmps104
    go_wp2_with fail
    refine (HC.out _).mono ?_
    rintro e w1 ⟨rfl, E1⟩
    clear p0 p1 p2 p3
    go_wp2_with fail
    go_ret
    exact ⟨ret_bool HF.out.symm, (by repeat (first | exact Ext.refl _ | assumption | refine Ext.alloc ?_ _ | refine Ext.drewN ?_ _ | refine Ext.drew ?_ | refine Ext.set ?_ (by dsimp only; omega) _ | refine Ext.trans ?_ (by assumption)))⟩
def waitB (x : CWait) : Bool := inB x.a 1 60 && inB x.b 1 60 && !(x.a == x.b)
set_option maxHeartbeats 1000000 in
theorem impl_LocksOK2 (x : CWait) (w : World) : Calls Try.prog 107 #[.agg #[.int .i64 x.a, .int .i64 x.b]] w fun e w' => e = .returned (.bool (!waitB x)) ∧ Ext w w' := by
  have hF : waitB x = (inB x.a 1 60 && inB x.b 1 60 && !(x.a == x.b)) := rfl
  have HA := Lib.hid (fun W => impl_isTx x.a W)
  have HB := Lib.hid (fun W => impl_isTx x.b W)
  generalize waitB x = r at hF ⊢
  generalize inB x.a 1 60 = t1 at hF HA
  generalize inB x.b 1 60 = t2 at hF HB
  rcases t1 with _ | _
  · have HF := Lib.hid (show r = false by rw [hF]; simp)
    clear hF
    go_enter Try.func107, Try.ntmps107
    go_wp2_with fail
    refine (HA.out _).mono ?_
    rintro e w1 ⟨rfl, rfl⟩
    go_wp2_with fail
    go_ret
    exact ⟨ret_bool (by rw [HF.out]; rfl), (by repeat (first | exact Ext.refl _ | assumption | refine Ext.alloc ?_ _ | refine Ext.drewN ?_ _ | refine Ext.drew ?_ | refine Ext.set ?_ (by dsimp only; omega) _ | refine Ext.trans ?_ (by assumption)))⟩
  rcases t2 with _ | _
  · have HF := Lib.hid (show r = false by rw [hF]; simp)
    clear hF
    go_enter Try.func107, Try.ntmps107
    go_wp2_with fail
    refine (HA.out _).mono ?_
    rintro e w1 ⟨rfl, rfl⟩
    go_wp2_with fail
    refine (HB.out _).mono ?_
    rintro e w1 ⟨rfl, rfl⟩
    go_wp2_with fail
    go_ret
    exact ⟨ret_bool (by rw [HF.out]; rfl), (by repeat (first | exact Ext.refl _ | assumption | refine Ext.alloc ?_ _ | refine Ext.drewN ?_ _ | refine Ext.drew ?_ | refine Ext.set ?_ (by dsimp only; omega) _ | refine Ext.trans ?_ (by assumption)))⟩
  · have HF := Lib.hid (show r = !(x.a == x.b) by rw [hF]; simp)
    clear hF
    go_enter Try.func107, Try.ntmps107
    go_wp2_with fail
    refine (HA.out _).mono ?_
    rintro e w1 ⟨rfl, rfl⟩
    go_wp2_with fail
    refine (HB.out _).mono ?_
    rintro e w1 ⟨rfl, rfl⟩
    go_wp2_with fail
    go_ret
    exact ⟨ret_bool (by rw [HF.out]; simp), (by repeat (first | exact Ext.refl _ | assumption | refine Ext.alloc ?_ _ | refine Ext.drewN ?_ _ | refine Ext.drew ?_ | refine Ext.set ?_ (by dsimp only; omega) _ | refine Ext.trans ?_ (by assumption)))⟩
/-- all locks up to place k are right, none the same as one before it nor against it -/
def heldTo (l : List CLock) (k : Nat) : Prop := ∀ i, (hi : i < l.length) → i < k → lockB (l[i]'hi) = true ∧ (l.take i).any (lkBad (l[i]'hi)) = false
def heldB (l : List CLock) : Bool := (List.range l.length).all fun i => match l[i]? with
  | some x => lockB x && !(l.take i).any (lkBad x)
  | none => true
theorem heldB_all {l : List CLock} (h : heldTo l l.length) : heldB l = true := by
  unfold heldB
  rw [List.all_eq_true]
  intro i hi
  rw [List.mem_range] at hi
  rw [List.getElem?_eq_getElem hi]
  obtain ⟨h1, h2⟩ := h i hi hi
  simp only [h1, h2]; rfl
theorem heldB_not {l : List CLock} {i : Nat} (hi : i < l.length) (h : lockB l[i] = false ∨ (l.take i).any (lkBad l[i]) = true) : heldB l = false := by
  unfold heldB
  rw [List.all_eq_false]
  refine ⟨i, List.mem_range.2 hi, ?_⟩
  rw [List.getElem?_eq_getElem hi]
  rcases h with h | h
  · simp [h]
  · simp only [h]; simp
theorem heldTo_zero (l : List CLock) : heldTo l 0 := fun i _ h => absurd h (Nat.not_lt_zero _)
theorem heldTo_succ {l : List CLock} {k : Nat} (h : heldTo l k) (hk : k < l.length) (h1 : lockB l[k] = true) (h2 : (l.take k).any (lkBad l[k]) = false) : heldTo l (k + 1) := by
  intro i hi hik
  rcases Nat.lt_or_ge i k with h3 | h3
  · exact h i hi h3
  · have : i = k := by omega
    subst this; exact ⟨h1, h2⟩
def locksB (l : List CLock) (q : List CWait) : Bool := heldB l && decide (l.length ≤ 60) && decide (q.length ≤ 100) && q.all waitB
theorem any_not_all (q : List CWait) : (q.any fun x => !waitB x) = !q.all waitB := by
  induction q with
  | nil => rfl
  | cons x r ih => simp only [List.any_cons, List.all_cons, ih, Bool.not_and]
set_option maxHeartbeats 4000000 in
theorem impl_LocksOK (Ah : Option Addr) (nh ph : Nat) (Aq : Option Addr) (nq pq : Nat) (lh : List CLock) (lq : List CWait) (w : World) (hlh : lh.length = nh) (hlq : lq.length = nq) (hph : nh ≤ ph) (hnh : nh ≤ 1099511627776) (hnq : nq ≤ 1099511627776)
    (hrh : Rd w Ah (lh.flatMap CLock.cs)) (hrq : Rd w Aq (lq.flatMap CWait.cs)) :
    Calls Try.prog 41 #[.agg #[.slice Ah nh ph, .slice Aq nq pq]] w fun e w' => e = .returned (.bool (locksB lh lq)) ∧ Ext w w' := by
  have HLh := Lib.hid hlh
  have HLq := Lib.hid hlq
  have hF : locksB lh lq = (heldB lh && decide (lh.length ≤ 60) && decide (lq.length ≤ 100) && lq.all waitB) := rfl
  generalize locksB lh lq = r at hF ⊢
  have HF := Lib.hid hF
  clear hlh hlq hF
  have HX := Lib.hid (Blk.new w 57 [.slice Ah nh ph, .slice Aq nq pq])
  have HE0 := Lib.hid (show Ext w (w.alloc (.cells #[.slice Ah nh ph, .slice Aq nq pq] 57)) from (by repeat (first | exact Ext.refl _ | assumption | refine Ext.alloc ?_ _ | refine Ext.drewN ?_ _ | refine Ext.drew ?_ | refine Ext.set ?_ (by dsimp only; omega) _ | refine Ext.trans ?_ (by assumption))))
  go_enter Try.func41, Try.ntmps41
  go_wp2_with fail
  generalize w.alloc (.cells #[.slice Ah nh ph, .slice Aq nq pq] 57) = w0 at HX HE0 ⊢
  go_loopw [8] (fun i wr => ∃ k : Nat, k ≤ nh ∧ i = .int .i64 k ∧ heldTo lh k ∧ Ext w0 wr) (fun i _ => nh - (intOf i).toNat)
  case atStart => exact ⟨0, Nat.zero_le _, rfl, heldTo_zero _, Ext.refl _⟩
  case round =>
    obtain ⟨k, hk, rfl, hT, hE⟩ := hrel
    have HT := Lib.hid hT
    have HE := Lib.hid hE
    clear hT hE
    by_cases hlt : k < nh
    · have hkl : k < lh.length := by rw [HLh.out]; exact hlt
      obtain ⟨b, o, rfl, hc⟩ := (hrh.ext (HE0.out.trans HE.out)).flat CLock.len (by decide) hkl
      have c0 : wr.cell? ⟨b, o + k * 4, none⟩ = some (.int .i64 lh[k].a) := by exact hc 0 _ rfl
      have c1 : wr.cell? ⟨b, o + k * 4 + 1, none⟩ = some (.int .i64 lh[k].b) := by rw [Nat.add_assoc]; exact hc 1 _ rfl
      have c2 : wr.cell? ⟨b, o + k * 4 + 2, none⟩ = some (.int .i64 lh[k].c) := by rw [Nat.add_assoc]; exact hc 2 _ rfl
      have c3 : wr.cell? ⟨b, o + k * 4 + 3, none⟩ = some (.int .i64 lh[k].d) := by rw [Nat.add_assoc]; exact hc 3 _ rfl
      clear hc
      obtain ⟨x0, x1⟩ := (HX.out.ext HE.out).cells2
      go_wp2_with fail
      clear c0 c1 c2 c3 x0 x1
      have HA := Lib.hid (Blk.new wr 125 lh[k].cs)
      have HE1 := Lib.hid (show Ext w0 (wr.alloc (.cells #[.int .i64 lh[k].a, .int .i64 lh[k].b, .int .i64 lh[k].c, .int .i64 lh[k].d] 125)) from HE.out.alloc _)
      have HA : Hid (Blk (wr.alloc (.cells #[.int .i64 lh[k].a, .int .i64 lh[k].b, .int .i64 lh[k].c, .int .i64 lh[k].d] 125)) wr.heap.size 125 lh[k].cs) := HA
      generalize wr.alloc (.cells #[.int .i64 lh[k].a, .int .i64 lh[k].b, .int .i64 lh[k].c, .int .i64 lh[k].d] 125) = w1 at HA HE1 ⊢
      generalize wr.heap.size = ba at HA ⊢
      rcases hv : lockB lh[k] with _ | _
      · have HV := Lib.hid (heldB_not hkl (.inl hv))
        have HV2 := Lib.hid hv
        clear hv
        refine (impl_lockOK lh[k] _).mono ?_
        rintro e w2 ⟨rfl, E2⟩
        rw [HV2.out]
        go_wp2_with fail
        go_ret
        exact ⟨ret_bool (by rw [HF.out, HV.out]; rfl), HE0.out.trans (HE1.out.trans E2)⟩
      · have HV2 := Lib.hid hv
        clear hv
        refine (impl_lockOK lh[k] _).mono ?_
        rintro e w2 ⟨rfl, E2⟩
        rw [HV2.out]
        have HA2 := Lib.hid (HA.out.ext E2)
        have HE2 := Lib.hid (HE1.out.trans E2)
        clear E2
        obtain ⟨x0, x1⟩ := (HX.out.ext HE2.out).cells2
        have HR2 := Lib.hid (hrh.ext (HE0.out.trans HE2.out))
        have HK := Lib.hid (show (lh.take k).length = k by rw [List.length_take]; omega)
        have HRk := Lib.hid (show Rd w2 (some ⟨b, o, none⟩) ((lh.take k).flatMap CLock.cs) from HR2.out.take_flat)
        have HC := Lib.hid (containsFunc_LockS1 104 (.pointer (some ⟨ba, 0, none⟩)) (lkBad lh[k]) call_LocksOK1 (some ⟨b, o, none⟩) k ph (lh.take k) w2 (fun x hx W hW => impl_LocksOK1 x lh[k] ba W (HA2.out.ext hW)) HK.out (by omega) HRk.out)
        rcases hu : (lh.take k).any (lkBad lh[k]) with _ | _
        · rw [hu] at HC
          have HU := Lib.hid hu
          clear hu
          go_wp2_with fail
          refine HC.out.mono ?_
          rintro e w3 ⟨rfl, E3⟩
          clear x0 x1
          go_wp2_with fail
          go_roundw
          case rel => exact ⟨k + 1, by omega, by go_num, heldTo_succ HT.out hkl HV2.out HU.out, HE2.out.trans E3⟩
          case measure => simp [intOf]; omega
        · rw [hu] at HC
          have HV := Lib.hid (heldB_not hkl (.inr hu))
          clear hu
          go_wp2_with fail
          refine HC.out.mono ?_
          rintro e w3 ⟨rfl, E3⟩
          clear x0 x1
          go_wp2_with fail
          go_ret
          exact ⟨ret_bool (by rw [HF.out, HV.out]; rfl), HE0.out.trans (HE2.out.trans E3)⟩
    · have hk2 : k = nh := by omega
      have HV := Lib.hid (heldB_all (fun i hi hik => HT.out i hi (by rw [HLh.out] at hik; omega)))
      have hF := HF.out
      rw [HV.out, HLh.out, HLq.out, Bool.true_and] at hF
      obtain ⟨x0, x1⟩ := (HX.out.ext HE.out).cells2
      by_cases h60 : nh ≤ 60
      · have d6 : decide ((nh : Int) ≤ 60) = true := decide_eq_true (by omega)
        by_cases h100 : nq ≤ 100
        · have d7 : decide ((nq : Int) ≤ 100) = true := decide_eq_true (by omega)
          have HG := Lib.hid (show r = lq.all waitB by rw [hF, decide_eq_true h60, decide_eq_true h100]; rfl)
          have HC := Lib.hid (containsFunc_WaitS 107 (fun x => !waitB x) call_LocksOK2 Aq nq pq lq wr (fun x hx W hW => impl_LocksOK2 x W) HLq.out hnq (hrq.ext (HE0.out.trans HE.out)))
          clear hF
          subst hk2
          go_wp2_with fail
          refine HC.out.mono ?_
          rintro e w3 ⟨rfl, E3⟩
          clear x0 x1
          go_wp2_with fail
          go_ret
          exact ⟨ret_bool (by rw [HG.out, any_not_all]; simp), HE0.out.trans (HE.out.trans E3)⟩
        · have d7 : decide ((nq : Int) ≤ 100) = false := decide_eq_false (by omega)
          have HG := Lib.hid (show r = false by rw [hF, decide_eq_true h60, decide_eq_false h100]; rfl)
          clear hF
          subst hk2
          go_wp2_with fail
          go_ret
          exact ⟨ret_bool HG.out.symm, HE0.out.trans HE.out⟩
      · have d6 : decide ((nh : Int) ≤ 60) = false := decide_eq_false (by omega)
        have HG := Lib.hid (show r = false by rw [hF, decide_eq_false h60]; simp)
        clear hF
        subst hk2
        go_wp2_with fail
        go_ret
        exact ⟨ret_bool HG.out.symm, HE0.out.trans HE.out⟩
end Go.Proofs.Ytnbfjkebakaigaa
