/- The walks of the two orders on values. -/
import Derived.Test.YthfkfdfcgldbeaaValue
import Derived.WalkLawsBesides
import Derived.StillTailTactics
namespace Go.Proofs.Ythfkfdfcgldbeaa
open Go.RowKit Go.Deep
set_option linter.unusedVariables false
set_option maxRecDepth 100000

/-- the order of two numbers, of two texts -/
def cmpI (a b : Int) : Int := if a < b then -1 else if a = b then 0 else 1
def cmpS (s t : ByteArray) : Int := if Op.bytesLess s.toList t.toList = true then -1 else if s.toList = t.toList then 0 else 1
def orI (a b : Int) : Int := if a = 0 then b else a
/-- the order of two values -/
def cmpV (k i : Int) (s : ByteArray) (k' i' : Int) (s' : ByteArray) : Int := orI (cmpI k k') (orI (cmpI i i') (cmpS s s'))
theorem bytesLess_self (l : List UInt8) : Op.bytesLess l l = false := by
  induction l with
  | nil => rfl
  | cons a r ih => simp [Op.bytesLess, ih]
theorem cmpI_cases (a b : Int) : cmpI a b = -1 ∨ cmpI a b = 0 ∨ cmpI a b = 1 := by
  unfold cmpI; split
  · exact .inl rfl
  · split
    · exact .inr (.inl rfl)
    · exact .inr (.inr rfl)
theorem cmpS_cases (a b : ByteArray) : cmpS a b = -1 ∨ cmpS a b = 0 ∨ cmpS a b = 1 := by
  unfold cmpS; split
  · exact .inl rfl
  · split
    · exact .inr (.inl rfl)
    · exact .inr (.inr rfl)
theorem compareInt_any (a b : Int) (w : World) : Calls Try.prog 160 #[.int .i64 a, .int .i64 b] w fun e w' => e = .returned (.int .i64 (cmpI a b)) ∧ w = w' := by
  by_cases h1 : a < b
  · have HC := Lib.hid (show cmpI a b = -1 from by unfold cmpI; rw [if_pos h1])
    go_enter Try.func160, Try.ntmps160
    go_wp2
    go_ret
    exact ⟨by rw [HC.out]; rfl, rfl⟩
  · by_cases h2 : a = b
    · subst h2
      have HC := Lib.hid (show cmpI a a = 0 from by unfold cmpI; rw [if_neg h1, if_pos rfl])
      go_enter Try.func160, Try.ntmps160
      go_wp2
      go_ret
      exact ⟨by rw [HC.out]; rfl, rfl⟩
    · have HC := Lib.hid (show cmpI a b = 1 from by unfold cmpI; rw [if_neg h1, if_neg h2])
      have h3 : b < a := by omega
      clear h2
      go_enter Try.func160, Try.ntmps160
      go_wp2
      go_ret
      exact ⟨by rw [HC.out]; rfl, rfl⟩
theorem compareText_any (a b : ByteArray) (w : World) : Calls Try.prog 161 #[.string a, .string b] w fun e w' => e = .returned (.int .i64 (cmpS a b)) ∧ w = w' := by
  by_cases h1 : Op.bytesLess a.toList b.toList = true
  · have HC := Lib.hid (show cmpS a b = -1 from by unfold cmpS; rw [if_pos h1])
    go_enter Try.func161, Try.ntmps161
    go_wp2
    go_ret
    exact ⟨by rw [HC.out]; rfl, rfl⟩
  · have h1' : Op.bytesLess a.toList b.toList = false := by simpa using h1
    by_cases h2 : a.toList = b.toList
    · have h2' : (a.toList == b.toList) = true := by simpa using h2
      have HC := Lib.hid (show cmpS a b = 0 from by unfold cmpS; rw [if_neg h1, if_pos h2])
      clear h1 h2
      go_enter Try.func161, Try.ntmps161
      go_wp2
      go_ret
      exact ⟨by rw [HC.out]; rfl, rfl⟩
    · have h2' : (a.toList == b.toList) = false := by simpa using h2
      have HC := Lib.hid (show cmpS a b = 1 from by unfold cmpS; rw [if_neg h1, if_neg h2])
      clear h1 h2
      go_enter Try.func161, Try.ntmps161
      go_wp2
      go_ret
      exact ⟨by rw [HC.out]; rfl, rfl⟩
theorem or_any (b : Nat) (x y z : Int) (w : World) (hB : Blk w b 3 [.int .i64 x, .int .i64 y, .int .i64 z]) :
    Calls Try.prog 159 #[.slice (some ⟨b, 0, none⟩) 3 3] w fun e w' => e = .returned (.int .i64 (orI x (orI y z))) ∧ w = w' := by
  obtain ⟨c0, c1, c2⟩ := hB.cells3
  by_cases h0 : x = 0
  · subst h0
    by_cases h1 : y = 0
    · subst h1
      by_cases h2 : z = 0
      · subst h2
        go_enter Try.func159, Try.ntmps159
        go_wp2
        refine wp_loop_rounds 4 ?_
        rw [rounds_succ]
        go_wp2
        rw [rounds_succ]
        go_wp2
        rw [rounds_succ]
        go_wp2
        rw [rounds_succ]
        go_wp2
        go_ret
        exact ⟨rfl, rfl⟩
      · have e0 : (z != 0) = true := by rw [bne_iff_ne]; exact h2
        have HC := Lib.hid (show orI 0 (orI 0 z) = z from rfl)
        clear h2
        go_enter Try.func159, Try.ntmps159
        go_wp2
        refine wp_loop_rounds 3 ?_
        rw [rounds_succ]
        go_wp2
        rw [rounds_succ]
        go_wp2
        rw [rounds_succ]
        go_wp2
        go_ret
        exact ⟨by rw [HC.out]; rfl, rfl⟩
    · have e0 : (y != 0) = true := by rw [bne_iff_ne]; exact h1
      have HC := Lib.hid (show orI 0 (orI y z) = y from by unfold orI; rw [if_pos rfl, if_neg h1])
      clear h1
      go_enter Try.func159, Try.ntmps159
      go_wp2
      refine wp_loop_rounds 2 ?_
      rw [rounds_succ]
      go_wp2
      rw [rounds_succ]
      go_wp2
      go_ret
      exact ⟨by rw [HC.out]; rfl, rfl⟩
  · have e0 : (x != 0) = true := by rw [bne_iff_ne]; exact h0
    have HC := Lib.hid (show orI x (orI y z) = x from by unfold orI; rw [if_neg h0])
    clear h0
    go_enter Try.func159, Try.ntmps159
    go_wp2
    refine wp_loop_rounds 1 ?_
    rw [rounds_succ]
    go_wp2
    go_ret
    exact ⟨by rw [HC.out]; rfl, rfl⟩
set_option maxHeartbeats 1000000 in
theorem impl_compare (k i : Int) (s : ByteArray) (k' i' : Int) (s' : ByteArray) (w : World) :
    Calls Try.prog 127 #[.agg #[.int .i64 k, .int .i64 i, .string s], .agg #[.int .i64 k', .int .i64 i', .string s']] w fun e w' => e = .returned (.int .i64 (cmpV k i s k' i' s')) ∧ Ext w w' := by
  have HV := Lib.hid (show cmpV k i s k' i' s' = orI (cmpI k k') (orI (cmpI i i') (cmpS s s')) from rfl)
  go_enter Try.func127, Try.ntmps127
  go_wp2
  have hB1 := (Blk.new w 30 [.int .i64 k, .int .i64 i, .string s]).alloc (.cells #[.int .i64 k', .int .i64 i', .string s'] 30)
  have hB2 := Blk.new (w.alloc (.cells #[.int .i64 k, .int .i64 i, .string s] 30)) 30 [.int .i64 k', .int .i64 i', .string s']
  have hE : Ext w ((w.alloc (.cells #[.int .i64 k, .int .i64 i, .string s] 30)).alloc (.cells #[.int .i64 k', .int .i64 i', .string s'] 30)) := (by repeat (first | exact Ext.refl _ | assumption | refine Ext.alloc ?_ _ | refine Ext.drewN ?_ _ | refine Ext.drew ?_ | refine Ext.set ?_ (by dsimp only; omega) _ | refine Ext.trans ?_ (by assumption)))
  rw [World.size_alloc] at hB2
  obtain ⟨c0, c1, c2⟩ := hB1.cells3
  obtain ⟨c3, c4, c5⟩ := hB2.cells3
  generalize ((w.alloc (.cells #[.int .i64 k, .int .i64 i, .string s] 30)).alloc (.cells #[.int .i64 k', .int .i64 i', .string s'] 30)) = W at *
  clear hB1 hB2
  refine wp_region_tail 15 (by kernel_rfl) (by kernel_rfl) ?_
  simp only [List.take_succ_cons, List.take_zero, List.drop_succ_cons, List.drop_zero]
  repeat still_step
  still_call ((compareInt_any k k' _).mono (fun _ _ h => ⟨h.1, h.2.symm⟩))
  repeat still_step
  still_call ((compareInt_any i i' _).mono (fun _ _ h => ⟨h.1, h.2.symm⟩))
  repeat still_step
  still_call ((compareText_any s s' _).mono (fun _ _ h => ⟨h.1, h.2.symm⟩))
  refine wpStill_nil ?_
  go_wp2_with fail
  refine (or_any _ _ _ _ _ (Blk.new W 3 [.int .i64 (cmpI k k'), .int .i64 (cmpI i i'), .int .i64 (cmpS s s')]).drew).mono ?_
  rintro e w' ⟨rfl, rfl⟩
  go_wp2_with fail
  go_ret
  exact ⟨by rw [HV.out]; rfl, (by repeat (first | exact Ext.refl _ | assumption | refine Ext.alloc ?_ _ | refine Ext.drewN ?_ _ | refine Ext.drew ?_ | refine Ext.set ?_ (by dsimp only; omega) _ | refine Ext.trans ?_ (by assumption)))⟩
set_option maxHeartbeats 1000000 in
theorem spec_compare (k i : Int) (s : ByteArray) (k' i' : Int) (s' : ByteArray) (w : World) :
    Calls Try.prog 123 #[.agg #[.int .i64 k, .int .i64 i, .string s], .agg #[.int .i64 k', .int .i64 i', .string s']] w fun e w' => e = .returned (.int .i64 (cmpV k i s k' i' s')) ∧ Ext w w' := by
  by_cases h1 : k = k'
  · subst h1
    by_cases h2 : i = i'
    · subst h2
      by_cases h3 : s.toList = s'.toList
      · have HV := Lib.hid (show cmpV k i s k i s' = 0 from by simp [cmpV, orI, cmpI, cmpS, h3, bytesLess_self])
        have d3 : (s.toList == s'.toList) = true := by simpa using h3
        clear h3
        go_enter Try.func123, Try.ntmps123
        go_wp2
        go_ret
        exact ⟨by rw [HV.out]; rfl, (by repeat (first | exact Ext.refl _ | assumption | refine Ext.alloc ?_ _ | refine Ext.drewN ?_ _ | refine Ext.drew ?_ | refine Ext.set ?_ (by dsimp only; omega) _ | refine Ext.trans ?_ (by assumption)))⟩
      · have d3 : (s.toList == s'.toList) = false := by simpa using h3
        by_cases h4 : Op.bytesLess s.toList s'.toList = true
        · have HV := Lib.hid (show cmpV k i s k i s' = -1 from by simp [cmpV, orI, cmpI, cmpS, h4])
          clear h3
          go_enter Try.func123, Try.ntmps123
          go_wp2
          go_ret
          exact ⟨by rw [HV.out]; rfl, (by repeat (first | exact Ext.refl _ | assumption | refine Ext.alloc ?_ _ | refine Ext.drewN ?_ _ | refine Ext.drew ?_ | refine Ext.set ?_ (by dsimp only; omega) _ | refine Ext.trans ?_ (by assumption)))⟩
        · have HV := Lib.hid (show cmpV k i s k i s' = 1 from by simp [cmpV, orI, cmpI, cmpS, h3, h4])
          have d4 : Op.bytesLess s.toList s'.toList = false := by simpa using h4
          clear h3 h4
          go_enter Try.func123, Try.ntmps123
          go_wp2
          go_ret
          exact ⟨by rw [HV.out]; rfl, (by repeat (first | exact Ext.refl _ | assumption | refine Ext.alloc ?_ _ | refine Ext.drewN ?_ _ | refine Ext.drew ?_ | refine Ext.set ?_ (by dsimp only; omega) _ | refine Ext.trans ?_ (by assumption)))⟩
    · have d2 : (i != i') = true := by rw [bne_iff_ne]; exact h2
      by_cases h4 : i' < i
      · have HV := Lib.hid (show cmpV k i s k i' s' = 1 from by simp [cmpV, orI, cmpI]; omega)
        have d4 : decide (i' < i) = true := decide_eq_true h4
        clear h2
        go_enter Try.func123, Try.ntmps123
        go_wp2
        go_ret
        exact ⟨by rw [HV.out]; rfl, (by repeat (first | exact Ext.refl _ | assumption | refine Ext.alloc ?_ _ | refine Ext.drewN ?_ _ | refine Ext.drew ?_ | refine Ext.set ?_ (by dsimp only; omega) _ | refine Ext.trans ?_ (by assumption)))⟩
      · have HV := Lib.hid (show cmpV k i s k i' s' = -1 from by simp [cmpV, orI, cmpI]; omega)
        have d4 : decide (i' < i) = false := decide_eq_false h4
        clear h2
        go_enter Try.func123, Try.ntmps123
        go_wp2
        go_ret
        exact ⟨by rw [HV.out]; rfl, (by repeat (first | exact Ext.refl _ | assumption | refine Ext.alloc ?_ _ | refine Ext.drewN ?_ _ | refine Ext.drew ?_ | refine Ext.set ?_ (by dsimp only; omega) _ | refine Ext.trans ?_ (by assumption)))⟩
  · have d2 : (k != k') = true := by rw [bne_iff_ne]; exact h1
    by_cases h4 : k' < k
    · have HV := Lib.hid (show cmpV k i s k' i' s' = 1 from by simp [cmpV, orI, cmpI]; omega)
      have d4 : decide (k' < k) = true := decide_eq_true h4
      clear h1
      go_enter Try.func123, Try.ntmps123
      go_wp2
      go_ret
      exact ⟨by rw [HV.out]; rfl, (by repeat (first | exact Ext.refl _ | assumption | refine Ext.alloc ?_ _ | refine Ext.drewN ?_ _ | refine Ext.drew ?_ | refine Ext.set ?_ (by dsimp only; omega) _ | refine Ext.trans ?_ (by assumption)))⟩
    · have HV := Lib.hid (show cmpV k i s k' i' s' = -1 from by simp [cmpV, orI, cmpI]; omega)
      have d4 : decide (k' < k) = false := decide_eq_false h4
      clear h1
      go_enter Try.func123, Try.ntmps123
      go_wp2
      go_ret
      exact ⟨by rw [HV.out]; rfl, (by repeat (first | exact Ext.refl _ | assumption | refine Ext.alloc ?_ _ | refine Ext.drewN ?_ _ | refine Ext.drew ?_ | refine Ext.set ?_ (by dsimp only; omega) _ | refine Ext.trans ?_ (by assumption)))⟩
end Go.Proofs.Ythfkfdfcgldbeaa
