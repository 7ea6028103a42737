/- The walks of what disk is right (printed by gen_diskok.py). -/
import Derived.Test.YtnbfjkebakaigaaInRange
import Derived.Test.YtnbfjkebakaigaaCompDisk
import Derived.Test.YtnbfjkebakaigaaFindPending
namespace Go.Proofs.Ytnbfjkebakaigaa
open Go.RowKit Go.Deep
set_option linter.unusedVariables false
set_option maxRecDepth 100000
def secB (s : ByteArray) : Bool := !decide (160 < s.size)
def penB (n : Nat) (x : CPending) : Bool := inB x.a 0 ((n : Int) - 1) && !decide (160 < x.c.size)
/-- the sizes of a disk that is right -/
def dkPre (ns nc nk : Nat) (ar : Bool) : Bool := inB (ns : Int) 1 100 && decide (nc ≤ 500) && decide (nk ≤ 500) && (ar || decide (nk = 0))
def diskB (ls : List ByteArray) (lc : List CPending) (ar : Bool) (nk : Nat) : Bool := dkPre ls.length lc.length nk ar && (ls.all secB && lc.all (penB ls.length))
theorem dkPre_cases (ns nc nk : Nat) (ar : Bool) (t : Bool) (r : Bool) (ht : t = inB (ns : Int) 1 100) (hr : r = dkPre ns nc nk ar) :
    (t = false ∧ r = false) ∨ (t = true ∧ 500 < nc ∧ r = false) ∨ (t = true ∧ ¬ 500 < nc ∧ 500 < nk ∧ r = false) ∨ (t = true ∧ ¬ 500 < nc ∧ ¬ 500 < nk ∧ ar = false ∧ 0 < nk ∧ r = false) ∨
    (t = true ∧ ¬ 500 < nc ∧ ¬ 500 < nk ∧ ar = true ∧ r = true) ∨ (t = true ∧ ¬ 500 < nc ∧ ¬ 500 < nk ∧ ar = false ∧ ¬ 0 < nk ∧ r = true) := by
  subst hr
  unfold dkPre
  rw [← ht]
  cases t
  · simp
  by_cases h1 : 500 < nc
  · simp [h1, show ¬ nc ≤ 500 by omega]
  by_cases h2 : 500 < nk
  · simp [h1, h2, show ¬ nk ≤ 500 by omega]
  cases ar
  · by_cases h3 : 0 < nk
    · simp [h1, h2, h3, show nk ≠ 0 by omega]
    · simp [h1, show nk = 0 by omega, show nc ≤ 500 by omega]
  · simp [h1, h2, show nc ≤ 500 by omega, show nk ≤ 500 by omega]
theorem any_not {α : Type} (l : List α) (p : α → Bool) : (l.any fun x => !p x) = !l.all p := by
  induction l with
  | nil => rfl
  | cons x r ih => simp only [List.any_cons, List.all_cons, ih, Bool.not_and]
theorem call_DiskOK1 (args : Array Value) (W : World) : (callFunc 137 args).run Try.prog W = .ok (.enter 137 args) W := by kernel_rfl
theorem call_DiskOK2 (args : Array Value) (W : World) : (callFunc 139 args).run Try.prog W = .ok (.enter 139 args) W := by kernel_rfl
theorem impl_DiskOK1 (s : ByteArray) (hs : s.size ≤ maxLen) (w : World) : Calls Try.prog 137 #[.string s] w fun e w' => e = .returned (.bool (!secB s)) ∧ w = w' := by
  unfold maxLen at hs
  by_cases h : 160 < s.size
  · have d : decide ((160 : Int) < (s.size : Int)) = true := decide_eq_true (by omega)
    have D := Lib.hid (show (!secB s) = true by unfold secB; rw [decide_eq_true h]; rfl)
    go_enter Try.func137, Try.ntmps137
    go_wp2
    go_ret
    exact ⟨ret_bool D.out.symm, rfl⟩
  · have d : decide ((160 : Int) < (s.size : Int)) = false := decide_eq_false (by omega)
    have D := Lib.hid (show (!secB s) = false by unfold secB; rw [decide_eq_false h]; rfl)
    go_enter Try.func137, Try.ntmps137
    go_wp2
    go_ret
    exact ⟨ret_bool D.out.symm, rfl⟩
theorem impl_isPlaceN (n : Int) (m : Nat) (w : World) (h2 : m ≤ 1000) : Calls Try.prog 79 #[.int .i64 n, .int .i64 (m : Int)] w fun e w' => e = .returned (.bool (inB n 0 ((m : Int) - 1))) ∧ w = w' := by
  have HI := Lib.hid (fun W => impl_inRange n 0 ((m : Int) - 1) W)
  go_enter Try.func79, Try.ntmps79
  go_wp2_with fail
  refine (HI.out _).mono ?_
  rintro e w' ⟨rfl, rfl⟩
  go_wp2_with fail
  go_ret
  exact ⟨rfl, rfl⟩
set_option maxHeartbeats 1000000 in
theorem impl_DiskOK2 (x : CPending) (hx : x.c.size ≤ maxLen) (cb : Nat) (As : Option Addr) (ns ps : Nat) (Ac : Option Addr) (nc pc : Nat) (ar : Bool) (Ak : Option Addr) (nk pk : Nat) (w : World) (hns : ns ≤ 1000) (hB : Blk w cb 26 [.slice As ns ps, .slice Ac nc pc, .bool ar, .slice Ak nk pk]) :
    Calls Try.prog 139 #[.agg #[.int .i64 x.a, .string x.c], .pointer (some ⟨cb, 0, none⟩)] w fun e w' => e = .returned (.bool (!penB ns x)) ∧ Ext w w' := by
  unfold maxLen at hx
  have hF : penB ns x = (inB x.a 0 ((ns : Int) - 1) && !decide (160 < x.c.size)) := rfl
  have HI := Lib.hid (fun W => impl_isPlaceN x.a ns W hns)
  generalize penB ns x = r at hF ⊢
  generalize inB x.a 0 ((ns : Int) - 1) = t1 at hF HI
  have HB := Lib.hid (hB.alloc (.cells #[.int .i64 x.a, .string x.c] 118))
  obtain ⟨p0, p1, p2, p3⟩ := HB.out.cells4
  clear hB
  rcases t1 with _ | _
  · have HF := Lib.hid (show (!r) = true by rw [hF]; rfl)
    clear hF
    go_enter Try.func139, Try.ntmps139
    go_wp2_with fail
    refine (HI.out _).mono ?_
    rintro e w' ⟨rfl, rfl⟩
    go_wp2_with fail
    go_ret
    exact ⟨ret_bool HF.out.symm, (by repeat (first | exact Ext.refl _ | assumption | refine Ext.alloc ?_ _ | refine Ext.drewN ?_ _ | refine Ext.drew ?_ | refine Ext.set ?_ (by dsimp only; omega) _ | refine Ext.trans ?_ (by assumption)))⟩
  by_cases h : 160 < x.c.size
  · have d : decide ((160 : Int) < (x.c.size : Int)) = true := decide_eq_true (by omega)
    have HF := Lib.hid (show (!r) = true by rw [hF, decide_eq_true h]; rfl)
    clear hF
    go_enter Try.func139, Try.ntmps139
    go_wp2_with fail
    refine (HI.out _).mono ?_
    rintro e w' ⟨rfl, rfl⟩
    go_wp2_with fail
    go_ret
    exact ⟨ret_bool HF.out.symm, (by repeat (first | exact Ext.refl _ | assumption | refine Ext.alloc ?_ _ | refine Ext.drewN ?_ _ | refine Ext.drew ?_ | refine Ext.set ?_ (by dsimp only; omega) _ | refine Ext.trans ?_ (by assumption)))⟩
  · have d : decide ((160 : Int) < (x.c.size : Int)) = false := decide_eq_false (by omega)
    have HF := Lib.hid (show (!r) = false by rw [hF, decide_eq_false h]; rfl)
    clear hF
    go_enter Try.func139, Try.ntmps139
    go_wp2_with fail
    refine (HI.out _).mono ?_
    rintro e w' ⟨rfl, rfl⟩
    go_wp2_with fail
    go_ret
    exact ⟨ret_bool HF.out.symm, (by repeat (first | exact Ext.refl _ | assumption | refine Ext.alloc ?_ _ | refine Ext.drewN ?_ _ | refine Ext.drew ?_ | refine Ext.set ?_ (by dsimp only; omega) _ | refine Ext.trans ?_ (by assumption)))⟩
set_option maxHeartbeats 4000000 in
theorem impl_DiskOK (As : Option Addr) (ns ps : Nat) (Ac : Option Addr) (nc pc : Nat) (ar : Bool) (Ak : Option Addr) (nk pk : Nat) (ls : List ByteArray) (lc : List CPending) (w : World) (hls : ls.length = ns) (hlc : lc.length = nc) (hns : ns ≤ 1099511627776) (hnc : nc ≤ 1099511627776) (hnk : nk ≤ 1099511627776) (hxs : ∀ s ∈ ls, s.size ≤ maxLen) (hxc : ∀ x ∈ lc, x.c.size ≤ maxLen) (hrs : Rd w As (ls.map fun c => Value.string c)) (hrc : Rd w Ac (lc.flatMap CPending.cs)) :
    Calls Try.prog 78 #[.agg #[.slice As ns ps, .slice Ac nc pc, .bool ar, .slice Ak nk pk]] w fun e w' => e = .returned (.bool (diskB ls lc ar nk)) ∧ Ext w w' := by
  have hF : diskB ls lc ar nk = (dkPre ls.length lc.length nk ar && (ls.all secB && lc.all (penB ls.length))) := rfl
  have hcs := dkPre_cases ls.length lc.length nk ar _ _ rfl rfl
  have HIn := Lib.hid (fun W => impl_inRange (ns : Int) 1 100 W)
  have hn100 : inB (ns : Int) 1 100 = true → ns ≤ 100 := fun h => by have := inB_true h; omega
  rw [hls, hlc] at hF hcs
  generalize diskB ls lc ar nk = r at hF ⊢
  generalize dkPre ns nc nk ar = t0 at hF hcs
  generalize inB (ns : Int) 1 100 = t1 at hcs HIn hn100
  have HLs := Lib.hid hls
  have HLc := Lib.hid hlc
  have HXs := Lib.hid hxs
  have HXc := Lib.hid hxc
  have HX := Lib.hid (Blk.new w 26 [.slice As ns ps, .slice Ac nc pc, .bool ar, .slice Ak nk pk])
  have E0 : Ext w (w.alloc (.cells #[.slice As ns ps, .slice Ac nc pc, .bool ar, .slice Ak nk pk] 26)) := (by repeat (first | exact Ext.refl _ | assumption | refine Ext.alloc ?_ _ | refine Ext.drewN ?_ _ | refine Ext.drew ?_ | refine Ext.set ?_ (by dsimp only; omega) _ | refine Ext.trans ?_ (by assumption)))
  have HRs := Lib.hid (hrs.ext E0)
  have HRc := Lib.hid (hrc.ext E0)
  have HE0 := Lib.hid E0
  clear hls hlc hxs hxc hrs hrc E0
  have d5 : 500 < nc → decide ((500 : Int) < (nc : Int)) = true := fun h => decide_eq_true (by omega)
  have d5' : ¬ 500 < nc → decide ((500 : Int) < (nc : Int)) = false := fun h => decide_eq_false (by omega)
  have d6 : 500 < nk → decide ((500 : Int) < (nk : Int)) = true := fun h => decide_eq_true (by omega)
  have d6' : ¬ 500 < nk → decide ((500 : Int) < (nk : Int)) = false := fun h => decide_eq_false (by omega)
  have d7 : 0 < nk → decide ((0 : Int) < (nk : Int)) = true := fun h => decide_eq_true (by omega)
  have d7' : ¬ 0 < nk → decide ((0 : Int) < (nk : Int)) = false := fun h => decide_eq_false (by omega)
  rcases hcs with ⟨rfl, rfl⟩ | ⟨rfl, h1, rfl⟩ | ⟨rfl, h1, h2, rfl⟩ | ⟨rfl, h1, h2, rfl, h3, rfl⟩ | hok
  · have HF := Lib.hid (show r = false by rw [hF]; rfl)
    clear hF
    clear d5 d5' d6 d6' d7 d7' hn100
    go_enter Try.func78, Try.ntmps78
    go_wp2_with fail
    refine (HIn.out _).mono ?_
    rintro e w' ⟨rfl, rfl⟩
    go_wp2_with fail
    go_ret
    exact ⟨ret_bool HF.out.symm, HE0.out⟩
  · have HF := Lib.hid (show r = false by rw [hF]; rfl)
    clear hF
    have e1 := d5 h1
    clear d5 d5' d6 d6' d7 d7' hn100
    go_enter Try.func78, Try.ntmps78
    go_wp2_with fail
    refine (HIn.out _).mono ?_
    rintro e w' ⟨rfl, rfl⟩
    go_wp2_with fail
    go_ret
    exact ⟨ret_bool HF.out.symm, HE0.out⟩
  · have HF := Lib.hid (show r = false by rw [hF]; rfl)
    clear hF
    have e1 := d5' h1
    have e2 := d6 h2
    clear d5 d5' d6 d6' d7 d7' hn100
    go_enter Try.func78, Try.ntmps78
    go_wp2_with fail
    refine (HIn.out _).mono ?_
    rintro e w' ⟨rfl, rfl⟩
    go_wp2_with fail
    go_ret
    exact ⟨ret_bool HF.out.symm, HE0.out⟩
  · have HF := Lib.hid (show r = false by rw [hF]; rfl)
    clear hF
    have e1 := d5' h1
    have e2 := d6' h2
    have e3 := d7 h3
    clear d5 d5' d6 d6' d7 d7' hn100
    go_enter Try.func78, Try.ntmps78
    go_wp2_with fail
    refine (HIn.out _).mono ?_
    rintro e w' ⟨rfl, rfl⟩
    go_wp2_with fail
    go_ret
    exact ⟨ret_bool HF.out.symm, HE0.out⟩
  have hok2 : t1 = true ∧ t0 = true ∧ ¬ 500 < nc ∧ ¬ 500 < nk := by rcases hok with ⟨a, b, c, _, d⟩ | ⟨a, b, c, _, _, d⟩ <;> exact ⟨a, d, b, c⟩
  obtain ⟨rfl, rfl, h1, h2⟩ := hok2
  have hok3 : ar = true ∨ (ar = false ∧ ¬ 0 < nk) := by
    rcases hok with ⟨_, _, _, d, _⟩ | ⟨_, _, _, d, e, _⟩
    · exact .inl d
    · exact .inr ⟨d, e⟩
  clear hok
  have e1 := d5' h1
  have e2 := d6' h2
  have hn1 := hn100 rfl
  clear hn100
  have HF := Lib.hid (show r = (ls.all secB && lc.all (penB ns)) by rw [hF]; rfl)
  clear hF d5 d5' d6 d6' d7
  have HS1 := Lib.hid (fun W (hW : Ext (w.alloc (.cells #[.slice As ns ps, .slice Ac nc pc, .bool ar, .slice Ak nk pk] 26)) W) => containsFunc_texts 137 (fun s => !secB s) call_DiskOK1 As ns ps ls W (fun s hs W => impl_DiskOK1 s (HXs.out s hs) W) HLs.out hns (HRs.out.ext hW))
  have HS2 := Lib.hid (fun W (hW : Ext (w.alloc (.cells #[.slice As ns ps, .slice Ac nc pc, .bool ar, .slice Ak nk pk] 26)) W) => containsFunc_PendingS1 139 (.pointer (some ⟨w.heap.size, 0, none⟩)) (fun x => !penB ns x) call_DiskOK2 Ac nc pc lc W (fun x hx W' hW' => impl_DiskOK2 x (HXc.out x hx) w.heap.size As ns ps Ac nc pc ar Ak nk pk W' (by omega) ((HX.out.ext hW).ext hW')) HLc.out hnc (HRc.out.ext hW))
  rcases hok3 with rfl | ⟨rfl, h3⟩
  · clear d7'
    rcases hs : ls.all secB with _ | _
    · have HV := Lib.hid (show r = false by rw [HF.out, hs]; rfl)
      have HU := Lib.hid (show (ls.any fun s => !secB s) = true by rw [any_not, hs]; rfl)
      rw [HU.out] at HS1
      clear hs
      go_enter Try.func78, Try.ntmps78
      go_wp2_with fail
      refine (HIn.out _).mono ?_
      rintro e w' ⟨rfl, rfl⟩
      go_wp2_with fail
      refine (HS1.out _ (Ext.refl _)).mono ?_
      rintro e w' ⟨rfl, rfl⟩
      go_wp2_with fail
      go_ret
      exact ⟨ret_bool HV.out.symm, HE0.out⟩
    · have HV := Lib.hid (show r = lc.all (penB ns) by rw [HF.out, hs]; rfl)
      have HU := Lib.hid (show (ls.any fun s => !secB s) = false by rw [any_not, hs]; rfl)
      rw [HU.out] at HS1
      rw [any_not] at HS2
      generalize lc.all (penB ns) = t2 at HV HS2
      clear hs
      go_enter Try.func78, Try.ntmps78
      go_wp2_with fail
      refine (HIn.out _).mono ?_
      rintro e w' ⟨rfl, rfl⟩
      go_wp2_with fail
      refine (HS1.out _ (Ext.refl _)).mono ?_
      rintro e w' ⟨rfl, rfl⟩
      go_wp2_with fail
      refine (HS2.out _ (Ext.refl _)).mono ?_
      rintro e w1 ⟨rfl, E1⟩
      go_wp2_with fail
      go_ret
      exact ⟨ret_bool (by rw [HV.out]; try simp), HE0.out.trans E1⟩
  · have e3 := d7' h3
    clear d7'
    rcases hs : ls.all secB with _ | _
    · have HV := Lib.hid (show r = false by rw [HF.out, hs]; rfl)
      have HU := Lib.hid (show (ls.any fun s => !secB s) = true by rw [any_not, hs]; rfl)
      rw [HU.out] at HS1
      clear hs
      go_enter Try.func78, Try.ntmps78
      go_wp2_with fail
      refine (HIn.out _).mono ?_
      rintro e w' ⟨rfl, rfl⟩
      go_wp2_with fail
      refine (HS1.out _ (Ext.refl _)).mono ?_
      rintro e w' ⟨rfl, rfl⟩
      go_wp2_with fail
      go_ret
      exact ⟨ret_bool HV.out.symm, HE0.out⟩
    · have HV := Lib.hid (show r = lc.all (penB ns) by rw [HF.out, hs]; rfl)
      have HU := Lib.hid (show (ls.any fun s => !secB s) = false by rw [any_not, hs]; rfl)
      rw [HU.out] at HS1
      rw [any_not] at HS2
      generalize lc.all (penB ns) = t2 at HV HS2
      clear hs
      go_enter Try.func78, Try.ntmps78
      go_wp2_with fail
      refine (HIn.out _).mono ?_
      rintro e w' ⟨rfl, rfl⟩
      go_wp2_with fail
      refine (HS1.out _ (Ext.refl _)).mono ?_
      rintro e w' ⟨rfl, rfl⟩
      go_wp2_with fail
      refine (HS2.out _ (Ext.refl _)).mono ?_
      rintro e w1 ⟨rfl, E1⟩
      go_wp2_with fail
      go_ret
      exact ⟨ret_bool (by rw [HV.out]; try simp), HE0.out.trans E1⟩
set_option maxHeartbeats 4000000 in
theorem spec_DiskOK (As : Option Addr) (ns ps : Nat) (Ac : Option Addr) (nc pc : Nat) (ar : Bool) (Ak : Option Addr) (nk pk : Nat) (ls : List ByteArray) (lc : List CPending) (w : World) (hls : ls.length = ns) (hlc : lc.length = nc) (hns : ns ≤ 1099511627776) (hnc : nc ≤ 1099511627776) (hnk : nk ≤ 1099511627776) (hxs : ∀ s ∈ ls, s.size ≤ maxLen) (hxc : ∀ x ∈ lc, x.c.size ≤ maxLen) (hrs : Rd w As (ls.map fun c => Value.string c)) (hrc : Rd w Ac (lc.flatMap CPending.cs)) :
    Calls Try.prog 73 #[.agg #[.slice As ns ps, .slice Ac nc pc, .bool ar, .slice Ak nk pk]] w fun e w' => e = .returned (.bool (diskB ls lc ar nk)) ∧ Ext w w' := by
  have hF : diskB ls lc ar nk = (dkPre ls.length lc.length nk ar && (ls.all secB && lc.all (penB ls.length))) := rfl
  have hcs := dkPre_cases ls.length lc.length nk ar _ _ rfl rfl
  have HIn := Lib.hid (fun W => spec_l01In (ns : Int) 1 100 W)
  have hn100 : inB (ns : Int) 1 100 = true → ns ≤ 100 := fun h => by have := inB_true h; omega
  rw [hls, hlc] at hF hcs
  generalize diskB ls lc ar nk = r at hF ⊢
  generalize dkPre ns nc nk ar = t0 at hF hcs
  generalize inB (ns : Int) 1 100 = t1 at hcs HIn hn100
  have HLs := Lib.hid hls
  have HLc := Lib.hid hlc
  have HXs := Lib.hid hxs
  have HXc := Lib.hid hxc
  have HX := Lib.hid (Blk.new w 26 [.slice As ns ps, .slice Ac nc pc, .bool ar, .slice Ak nk pk])
  have E0 : Ext w (w.alloc (.cells #[.slice As ns ps, .slice Ac nc pc, .bool ar, .slice Ak nk pk] 26)) := (by repeat (first | exact Ext.refl _ | assumption | refine Ext.alloc ?_ _ | refine Ext.drewN ?_ _ | refine Ext.drew ?_ | refine Ext.set ?_ (by dsimp only; omega) _ | refine Ext.trans ?_ (by assumption)))
  have HRs := Lib.hid (hrs.ext E0)
  have HRc := Lib.hid (hrc.ext E0)
  have HE0 := Lib.hid E0
  clear hls hlc hxs hxc hrs hrc E0
  have d5 : 500 < nc → decide ((500 : Int) < (nc : Int)) = true := fun h => decide_eq_true (by omega)
  have d5' : ¬ 500 < nc → decide ((500 : Int) < (nc : Int)) = false := fun h => decide_eq_false (by omega)
  have d6 : 500 < nk → decide ((500 : Int) < (nk : Int)) = true := fun h => decide_eq_true (by omega)
  have d6' : ¬ 500 < nk → decide ((500 : Int) < (nk : Int)) = false := fun h => decide_eq_false (by omega)
  have d7 : 0 < nk → decide ((0 : Int) < (nk : Int)) = true := fun h => decide_eq_true (by omega)
  have d7' : ¬ 0 < nk → decide ((0 : Int) < (nk : Int)) = false := fun h => decide_eq_false (by omega)
  rcases hcs with ⟨rfl, rfl⟩ | ⟨rfl, h1, rfl⟩ | ⟨rfl, h1, h2, rfl⟩ | ⟨rfl, h1, h2, rfl, h3, rfl⟩ | hok
  · have HF := Lib.hid (show r = false by rw [hF]; rfl)
    clear hF
    clear d5 d5' d6 d6' d7 d7' hn100
    go_enter Try.func73, Try.ntmps73
    go_wp2_with fail
    refine (HIn.out _).mono ?_
    rintro e w' ⟨rfl, rfl⟩
    go_wp2_with fail
    go_ret
    exact ⟨ret_bool HF.out.symm, HE0.out⟩
  · have HF := Lib.hid (show r = false by rw [hF]; rfl)
    clear hF
    have e1 := d5 h1
    clear d5 d5' d6 d6' d7 d7' hn100
    go_enter Try.func73, Try.ntmps73
    go_wp2_with fail
    refine (HIn.out _).mono ?_
    rintro e w' ⟨rfl, rfl⟩
    go_wp2_with fail
    go_ret
    exact ⟨ret_bool HF.out.symm, HE0.out⟩
  · have HF := Lib.hid (show r = false by rw [hF]; rfl)
    clear hF
    have e1 := d5' h1
    have e2 := d6 h2
    clear d5 d5' d6 d6' d7 d7' hn100
    go_enter Try.func73, Try.ntmps73
    go_wp2_with fail
    refine (HIn.out _).mono ?_
    rintro e w' ⟨rfl, rfl⟩
    go_wp2_with fail
    go_ret
    exact ⟨ret_bool HF.out.symm, HE0.out⟩
  · have HF := Lib.hid (show r = false by rw [hF]; rfl)
    clear hF
    have e1 := d5' h1
    have e2 := d6' h2
    have e3 := d7 h3
    clear d5 d5' d6 d6' d7 d7' hn100
    go_enter Try.func73, Try.ntmps73
    go_wp2_with fail
    refine (HIn.out _).mono ?_
    rintro e w' ⟨rfl, rfl⟩
    go_wp2_with fail
    go_ret
    exact ⟨ret_bool HF.out.symm, HE0.out⟩
  have hok2 : t1 = true ∧ t0 = true ∧ ¬ 500 < nc ∧ ¬ 500 < nk := by rcases hok with ⟨a, b, c, _, d⟩ | ⟨a, b, c, _, _, d⟩ <;> exact ⟨a, d, b, c⟩
  obtain ⟨rfl, rfl, h1, h2⟩ := hok2
  have hok3 : ar = true ∨ (ar = false ∧ ¬ 0 < nk) := by
    rcases hok with ⟨_, _, _, d, _⟩ | ⟨_, _, _, d, e, _⟩
    · exact .inl d
    · exact .inr ⟨d, e⟩
  clear hok
  have e1 := d5' h1
  have e2 := d6' h2
  have hn1 := hn100 rfl
  clear hn100
  have HF := Lib.hid (show r = (ls.all secB && lc.all (penB ns)) by rw [hF]; rfl)
  clear hF d5 d5' d6 d6' d7
  have HRs' := HRs.out
  have HRc' := HRc.out
  clear HRs HRc
  rcases hok3 with rfl | ⟨rfl, h3⟩
  · clear d7'
    go_enter Try.func73, Try.ntmps73
    go_wp2_with fail
    refine (HIn.out _).mono ?_
    rintro e w' ⟨rfl, rfl⟩
    go_wp2_with fail
    generalize w.alloc (.cells #[.slice As ns ps, .slice Ac nc pc, .bool true, .slice Ak nk pk] 26) = w0 at HX HE0 HRs' HRc' ⊢
    clear e1 e2
    go_loopw [4] (fun i wr => ∃ k : Nat, k ≤ ns ∧ i = .int .i64 k ∧ (∀ p, (hp : p < ls.length) → p < k → secB (ls[p]'hp) = true) ∧ wr = w0) (fun i _ => ns - (intOf i).toNat)
    case atStart => exact ⟨0, Nat.zero_le _, rfl, fun p _ h => absurd h (Nat.not_lt_zero _), by first | rfl | trivial⟩
    case round =>
      obtain ⟨k, hk, rfl, hP, rfl⟩ := hrel
      have HP := Lib.hid hP
      clear hP
      obtain ⟨x0, x1, x2, x3⟩ := HX.out.cells4
      by_cases hlt : k < ns
      · have hkl : k < ls.length := by rw [HLs.out]; exact hlt
        obtain ⟨b, o, rfl, hc⟩ := HRs'.map_ hkl
        have hm := HXs.out _ (List.getElem_mem hkl)
        unfold maxLen at hm
        by_cases h : 160 < ls[k].size
        · have d : decide ((160 : Int) < (ls[k].size : Int)) = true := decide_eq_true (by omega)
          have HV := Lib.hid (show ls.all secB = false from List.all_eq_false.2 ⟨_, List.getElem_mem hkl, by unfold secB; rw [decide_eq_true h]; simp⟩)
          go_wp2_with fail
          go_ret
          exact ⟨ret_bool (by rw [HF.out, HV.out]; rfl), HE0.out⟩
        · have d : decide ((160 : Int) < (ls[k].size : Int)) = false := decide_eq_false (by omega)
          have HV := Lib.hid (show secB ls[k] = true by unfold secB; rw [decide_eq_false h]; rfl)
          go_wp2_with fail
          clear d hc x0 x1 x2 x3
          go_roundw
          case rel => exact ⟨k + 1, by omega, by go_num, fun p hp hpq => by
            rcases Nat.lt_or_ge p k with h | h
            · exact HP.out p hp h
            · have : p = k := by omega
              subst this; exact HV.out, by first | rfl | trivial⟩
          case measure => simp [intOf]; omega
      · have HA := Lib.hid (show ls.all secB = true from List.all_eq_true.2 fun x hx => by
          obtain ⟨p, hp, rfl⟩ := List.getElem_of_mem hx
          exact HP.out p hp (by rw [HLs.out] at hp; omega))
        clear HP
        go_wp2_with fail
        clear x0 x1 x2 x3
        obtain ⟨wo, rfl⟩ : ∃ wo : World, wo = wr := ⟨_, rfl⟩
        go_loopw [5] (fun i wr => ∃ q : Nat, q ≤ nc ∧ i = .int .i64 q ∧ (∀ p, (hp : p < lc.length) → p < q → penB ns (lc[p]'hp) = true) ∧ Ext wo wr) (fun i _ => nc - (intOf i).toNat)
        case atStart => exact ⟨0, Nat.zero_le _, rfl, fun p _ h => absurd h (Nat.not_lt_zero _), Ext.refl _⟩
        case round =>
          obtain ⟨q, hq, rfl, hP, hE2⟩ := hrel
          have HP := Lib.hid hP
          have HE2 := Lib.hid hE2
          clear hP hE2
          obtain ⟨x0, x1, x2, x3⟩ := (HX.out.ext HE2.out).cells4
          by_cases hlt : q < nc
          · have hql : q < lc.length := by rw [HLc.out]; exact hlt
            obtain ⟨b, o, rfl, hc⟩ := (HRc'.ext HE2.out).flat CPending.len (by decide) hql
            have c0 : wr.cell? ⟨b, o + q * 2, none⟩ = some (.int .i64 lc[q].a) := by exact hc 0 _ rfl
            have c1 : wr.cell? ⟨b, o + q * 2 + 1, none⟩ = some (.string lc[q].c) := by rw [Nat.add_assoc]; exact hc 1 _ rfl
            clear hc
            have hm := HXc.out _ (List.getElem_mem hql)
            unfold maxLen at hm
            have hW : penB ns lc[q] = (inB lc[q].a 0 ((ns : Int) - 1) && !decide (160 < lc[q].c.size)) := rfl
            have HI := Lib.hid (fun W => spec_l01In lc[q].a 0 ((ns : Int) - 1) W)
            rcases g1 : inB lc[q].a 0 ((ns : Int) - 1) with _ | _
            · rw [g1] at HI
              have HV := Lib.hid (show lc.all (penB ns) = false from List.all_eq_false.2 ⟨_, List.getElem_mem hql, by rw [hW, g1]; simp⟩)
              clear hW g1
              go_wp2_with fail
              refine (HI.out _).mono ?_
              rintro e w' ⟨rfl, rfl⟩
              go_wp2_with fail
              go_ret
              exact ⟨ret_bool (by rw [HF.out, HV.out]; simp), HE0.out.trans (HE2.out.alloc _)⟩
            rw [g1] at HI
            by_cases h : 160 < lc[q].c.size
            · have d : decide ((160 : Int) < (lc[q].c.size : Int)) = true := decide_eq_true (by omega)
              have HV := Lib.hid (show lc.all (penB ns) = false from List.all_eq_false.2 ⟨_, List.getElem_mem hql, by rw [hW, g1, decide_eq_true h]; simp⟩)
              clear hW g1
              go_wp2_with fail
              refine (HI.out _).mono ?_
              rintro e w' ⟨rfl, rfl⟩
              go_wp2_with fail
              go_ret
              exact ⟨ret_bool (by rw [HF.out, HV.out]; simp), HE0.out.trans (HE2.out.alloc _)⟩
            · have d : decide ((160 : Int) < (lc[q].c.size : Int)) = false := decide_eq_false (by omega)
              have HV := Lib.hid (show penB ns lc[q] = true by rw [hW, g1, decide_eq_false h]; rfl)
              clear hW g1
              go_wp2_with fail
              refine (HI.out _).mono ?_
              rintro e w' ⟨rfl, rfl⟩
              go_wp2_with fail
              clear d c0 c1 x0 x1 x2 x3
              go_roundw
              case rel => exact ⟨q + 1, by omega, by go_num, fun p hp hpq => by
                rcases Nat.lt_or_ge p q with h | h
                · exact HP.out p hp h
                · have : p = q := by omega
                  subst this; exact HV.out, HE2.out.alloc _⟩
              case measure => simp [intOf]; omega
          · have HV := Lib.hid (show lc.all (penB ns) = true from List.all_eq_true.2 fun x hx => by
              obtain ⟨p, hp, rfl⟩ := List.getElem_of_mem hx
              exact HP.out p hp (by rw [HLc.out] at hp; omega))
            go_wp2_with fail
            go_ret
            exact ⟨ret_bool (by rw [HF.out, HA.out, HV.out]; rfl), HE0.out.trans HE2.out⟩
  · have e3 := d7' h3
    clear d7'
    go_enter Try.func73, Try.ntmps73
    go_wp2_with fail
    refine (HIn.out _).mono ?_
    rintro e w' ⟨rfl, rfl⟩
    go_wp2_with fail
    generalize w.alloc (.cells #[.slice As ns ps, .slice Ac nc pc, .bool false, .slice Ak nk pk] 26) = w0 at HX HE0 HRs' HRc' ⊢
    clear e1 e2
    go_loopw [4] (fun i wr => ∃ k : Nat, k ≤ ns ∧ i = .int .i64 k ∧ (∀ p, (hp : p < ls.length) → p < k → secB (ls[p]'hp) = true) ∧ wr = w0) (fun i _ => ns - (intOf i).toNat)
    case atStart => exact ⟨0, Nat.zero_le _, rfl, fun p _ h => absurd h (Nat.not_lt_zero _), by first | rfl | trivial⟩
    case round =>
      obtain ⟨k, hk, rfl, hP, rfl⟩ := hrel
      have HP := Lib.hid hP
      clear hP
      obtain ⟨x0, x1, x2, x3⟩ := HX.out.cells4
      by_cases hlt : k < ns
      · have hkl : k < ls.length := by rw [HLs.out]; exact hlt
        obtain ⟨b, o, rfl, hc⟩ := HRs'.map_ hkl
        have hm := HXs.out _ (List.getElem_mem hkl)
        unfold maxLen at hm
        by_cases h : 160 < ls[k].size
        · have d : decide ((160 : Int) < (ls[k].size : Int)) = true := decide_eq_true (by omega)
          have HV := Lib.hid (show ls.all secB = false from List.all_eq_false.2 ⟨_, List.getElem_mem hkl, by unfold secB; rw [decide_eq_true h]; simp⟩)
          go_wp2_with fail
          go_ret
          exact ⟨ret_bool (by rw [HF.out, HV.out]; rfl), HE0.out⟩
        · have d : decide ((160 : Int) < (ls[k].size : Int)) = false := decide_eq_false (by omega)
          have HV := Lib.hid (show secB ls[k] = true by unfold secB; rw [decide_eq_false h]; rfl)
          go_wp2_with fail
          clear d hc x0 x1 x2 x3
          go_roundw
          case rel => exact ⟨k + 1, by omega, by go_num, fun p hp hpq => by
            rcases Nat.lt_or_ge p k with h | h
            · exact HP.out p hp h
            · have : p = k := by omega
              subst this; exact HV.out, by first | rfl | trivial⟩
          case measure => simp [intOf]; omega
      · have HA := Lib.hid (show ls.all secB = true from List.all_eq_true.2 fun x hx => by
          obtain ⟨p, hp, rfl⟩ := List.getElem_of_mem hx
          exact HP.out p hp (by rw [HLs.out] at hp; omega))
        clear HP
        go_wp2_with fail
        clear x0 x1 x2 x3
        obtain ⟨wo, rfl⟩ : ∃ wo : World, wo = wr := ⟨_, rfl⟩
        go_loopw [5] (fun i wr => ∃ q : Nat, q ≤ nc ∧ i = .int .i64 q ∧ (∀ p, (hp : p < lc.length) → p < q → penB ns (lc[p]'hp) = true) ∧ Ext wo wr) (fun i _ => nc - (intOf i).toNat)
        case atStart => exact ⟨0, Nat.zero_le _, rfl, fun p _ h => absurd h (Nat.not_lt_zero _), Ext.refl _⟩
        case round =>
          obtain ⟨q, hq, rfl, hP, hE2⟩ := hrel
          have HP := Lib.hid hP
          have HE2 := Lib.hid hE2
          clear hP hE2
          obtain ⟨x0, x1, x2, x3⟩ := (HX.out.ext HE2.out).cells4
          by_cases hlt : q < nc
          · have hql : q < lc.length := by rw [HLc.out]; exact hlt
            obtain ⟨b, o, rfl, hc⟩ := (HRc'.ext HE2.out).flat CPending.len (by decide) hql
            have c0 : wr.cell? ⟨b, o + q * 2, none⟩ = some (.int .i64 lc[q].a) := by exact hc 0 _ rfl
            have c1 : wr.cell? ⟨b, o + q * 2 + 1, none⟩ = some (.string lc[q].c) := by rw [Nat.add_assoc]; exact hc 1 _ rfl
            clear hc
            have hm := HXc.out _ (List.getElem_mem hql)
            unfold maxLen at hm
            have hW : penB ns lc[q] = (inB lc[q].a 0 ((ns : Int) - 1) && !decide (160 < lc[q].c.size)) := rfl
            have HI := Lib.hid (fun W => spec_l01In lc[q].a 0 ((ns : Int) - 1) W)
            rcases g1 : inB lc[q].a 0 ((ns : Int) - 1) with _ | _
            · rw [g1] at HI
              have HV := Lib.hid (show lc.all (penB ns) = false from List.all_eq_false.2 ⟨_, List.getElem_mem hql, by rw [hW, g1]; simp⟩)
              clear hW g1
              go_wp2_with fail
              refine (HI.out _).mono ?_
              rintro e w' ⟨rfl, rfl⟩
              go_wp2_with fail
              go_ret
              exact ⟨ret_bool (by rw [HF.out, HV.out]; simp), HE0.out.trans (HE2.out.alloc _)⟩
            rw [g1] at HI
            by_cases h : 160 < lc[q].c.size
            · have d : decide ((160 : Int) < (lc[q].c.size : Int)) = true := decide_eq_true (by omega)
              have HV := Lib.hid (show lc.all (penB ns) = false from List.all_eq_false.2 ⟨_, List.getElem_mem hql, by rw [hW, g1, decide_eq_true h]; simp⟩)
              clear hW g1
              go_wp2_with fail
              refine (HI.out _).mono ?_
              rintro e w' ⟨rfl, rfl⟩
              go_wp2_with fail
              go_ret
              exact ⟨ret_bool (by rw [HF.out, HV.out]; simp), HE0.out.trans (HE2.out.alloc _)⟩
            · have d : decide ((160 : Int) < (lc[q].c.size : Int)) = false := decide_eq_false (by omega)
              have HV := Lib.hid (show penB ns lc[q] = true by rw [hW, g1, decide_eq_false h]; rfl)
              clear hW g1
              go_wp2_with fail
              refine (HI.out _).mono ?_
              rintro e w' ⟨rfl, rfl⟩
              go_wp2_with fail
              clear d c0 c1 x0 x1 x2 x3
              go_roundw
              case rel => exact ⟨q + 1, by omega, by go_num, fun p hp hpq => by
                rcases Nat.lt_or_ge p q with h | h
                · exact HP.out p hp h
                · have : p = q := by omega
                  subst this; exact HV.out, HE2.out.alloc _⟩
              case measure => simp [intOf]; omega
          · have HV := Lib.hid (show lc.all (penB ns) = true from List.all_eq_true.2 fun x hx => by
              obtain ⟨p, hp, rfl⟩ := List.getElem_of_mem hx
              exact HP.out p hp (by rw [HLc.out] at hp; omega))
            go_wp2_with fail
            go_ret
            exact ⟨ret_bool (by rw [HF.out, HA.out, HV.out]; rfl), HE0.out.trans HE2.out⟩
end Go.Proofs.Ytnbfjkebakaigaa
