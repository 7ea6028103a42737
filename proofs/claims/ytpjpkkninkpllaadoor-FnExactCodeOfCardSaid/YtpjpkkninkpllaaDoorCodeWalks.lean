/- The walks of the two CodeWord functions. -/
import Derived.Test.YtpjpkkninkpllaaDoorRows
import Derived.Test.YtpjpkkninkpllaaDoorCodePlain
namespace Go.Proofs.YtpjpkkninkpllaaDoor
open Go.RowKit Go.Deep
set_option linter.unusedVariables false
set_option maxRecDepth 100000 in
set_option maxHeartbeats 4000000 in
theorem spec_CodeWord (k : Int) (w : World) : Calls Tryd.prog 5 #[.int .i64 k] w fun e w' => e = .returned (.string (wordOf k)) ∧ Ext w w' := by
  by_cases h0 : 0 ≤ k
  · by_cases h1 : k < 20
    · rcases code_cases k h0 h1 with rfl | rfl | rfl | rfl | rfl | rfl | rfl | rfl | rfl | rfl | rfl | rfl | rfl | rfl | rfl | rfl | rfl | rfl | rfl | rfl <;>
      · clear h0 h1
        go_enter Tryd.func5, Tryd.ntmps5
        go_wp2
        go_ret
        exact ⟨rfl, (by repeat (first | exact Ext.refl _ | assumption | refine Ext.alloc ?_ _ | refine Ext.drewN ?_ _ | refine Ext.drew ?_ | refine Ext.set ?_ (by dsimp only; omega) _ | refine Ext.trans ?_ (by assumption)))⟩
    · have HV := Lib.hid (show wordOf k = ByteArray.empty from by unfold wordOf; rw [if_neg (by omega)])
      go_enter Tryd.func5, Tryd.ntmps5
      go_wp2
      go_ret
      exact ⟨by rw [HV.out]; rfl, (by repeat (first | exact Ext.refl _ | assumption | refine Ext.alloc ?_ _ | refine Ext.drewN ?_ _ | refine Ext.drew ?_ | refine Ext.set ?_ (by dsimp only; omega) _ | refine Ext.trans ?_ (by assumption)))⟩
  · have HV := Lib.hid (show wordOf k = ByteArray.empty from by unfold wordOf; rw [if_neg (by omega)])
    go_enter Tryd.func5, Tryd.ntmps5
    go_wp2
    go_ret
    exact ⟨by rw [HV.out]; rfl, (by repeat (first | exact Ext.refl _ | assumption | refine Ext.alloc ?_ _ | refine Ext.drewN ?_ _ | refine Ext.drew ?_ | refine Ext.set ?_ (by dsimp only; omega) _ | refine Ext.trans ?_ (by assumption)))⟩
/-- what the program's table of words holds -/
def Table (w : World) : Prop := ∀ i, (hi : i < words.length) → w.cell? ⟨0, i, none⟩ = some (.string (words[i]'hi))
theorem Table.ext {w w' : World} (h : Table w) (e : Ext w w') : Table w' := fun i hi => e.cell (h i hi)
set_option maxRecDepth 100000 in
set_option maxHeartbeats 4000000 in
theorem impl_CodeWord (k : Int) (w : World) (hT : Table w) : Calls Tryd.prog 6 #[.int .i64 k] w fun e w' => e = .returned (.string (wordOf k)) ∧ w = w' := by
  by_cases h0 : 0 ≤ k
  · by_cases h1 : k < 20
    · have hn : k.toNat < words.length := by rw [words_len]; omega
      have hc := hT k.toNat hn
      have HV := Lib.hid (show wordOf k = words[k.toNat] from by unfold wordOf; rw [if_pos ⟨h0, h1⟩]; simp [List.getD_eq_getElem?_getD, List.getElem?_eq_getElem hn])
      generalize words[k.toNat] = x at hc HV
      have h19 : k ≤ 19 := by omega
      go_enter Tryd.func6, Tryd.ntmps6
      go_wp2
      go_ret
      exact ⟨by rw [HV.out]; rfl, rfl⟩
    · have HV := Lib.hid (show wordOf k = ByteArray.empty from by unfold wordOf; rw [if_neg (by omega)])
      have h19 : ¬ k ≤ 19 := by omega
      go_enter Tryd.func6, Tryd.ntmps6
      go_wp2
      go_ret
      exact ⟨by rw [HV.out]; rfl, rfl⟩
  · have HV := Lib.hid (show wordOf k = ByteArray.empty from by unfold wordOf; rw [if_neg (by omega)])
    go_enter Tryd.func6, Tryd.ntmps6
    go_wp2
    go_ret
    exact ⟨by rw [HV.out]; rfl, rfl⟩
theorem walk_FnExactCodeWord (w : World) (hT : Table w) (k : Int) (wk : (Lit.int .i64 k).wf = true) : Calls Tryd.prog 3 #[.int .i64 k] w fun e w' => e = .returned (.bool true) ∧ Ext w w' := by
  have hS := spec_CodeWord k
  have hI := impl_CodeWord k
  generalize wordOf k = x at hS hI
  have HS := Lib.hid hS
  have HI := Lib.hid hI
  have HT := Lib.hid hT
  clear hS hI hT wk
  go_enter Tryd.func3, Tryd.ntmps3
  go_wp2_with fail
  refine (HS.out _).mono ?_
  rintro e w1 ⟨rfl, E1⟩
  go_wp2_with fail
  refine (HI.out _ (HT.out.ext E1)).mono ?_
  rintro e w2 ⟨rfl, rfl⟩
  go_wp2_with fail
  go_ret
  exact ⟨rfl, E1⟩
end Go.Proofs.YtpjpkkninkpllaaDoor
