/- A number in a range: the walks of inRange and l01In, apart from Check. -/
import Derived.Test.YthfkfdfcgldbeaaRows
import Derived.Test.YthfkfdfcgldbeaaMem
import Derived.Test.YthfkfdfcgldbeaaConv
namespace Go.Proofs.Ythfkfdfcgldbeaa
open Go.RowKit Go.Deep
set_option linter.unusedVariables false
set_option maxRecDepth 100000
/-- whether a number lies in a range -/
def inB (n lo hi : Int) : Bool := decide (lo ≤ n) && decide (n ≤ hi)
theorem inB_true {n lo hi : Int} (h : inB n lo hi = true) : lo ≤ n ∧ n ≤ hi := by unfold inB at h; simpa using h
theorem inB_false {n lo hi : Int} (h : inB n lo hi = false) : ¬ (lo ≤ n ∧ n ≤ hi) := by
  unfold inB at h; intro ⟨h1, h2⟩; rw [decide_eq_true h1, decide_eq_true h2] at h; cases h
theorem impl_inRange (n lo hi : Int) (w : World) : Calls Try.prog 76 #[.int .i64 n, .int .i64 lo, .int .i64 hi] w fun e w' => e = .returned (.bool (inB n lo hi)) ∧ w = w' := by
  by_cases h1 : lo ≤ n
  · by_cases h2 : n ≤ hi
    · have HV := Lib.hid (show inB n lo hi = true by unfold inB; rw [decide_eq_true h1, decide_eq_true h2]; rfl)
      go_enter Try.func76, Try.ntmps76
      go_wp2
      go_ret
      exact ⟨ret_bool HV.out.symm, rfl⟩
    · have HV := Lib.hid (show inB n lo hi = false by unfold inB; rw [decide_eq_false h2]; simp)
      have d := decide_eq_false h2
      go_enter Try.func76, Try.ntmps76
      go_wp2
      go_ret
      exact ⟨ret_bool HV.out.symm, rfl⟩
  · have HV := Lib.hid (show inB n lo hi = false by unfold inB; rw [decide_eq_false h1]; simp)
    have d := decide_eq_false h1
    go_enter Try.func76, Try.ntmps76
    go_wp2
    go_ret
    exact ⟨ret_bool HV.out.symm, rfl⟩
theorem spec_l01In (n lo hi : Int) (w : World) : Calls Try.prog 64 #[.int .i64 n, .int .i64 lo, .int .i64 hi] w fun e w' => e = .returned (.bool (inB n lo hi)) ∧ w = w' := by
  by_cases h1 : lo ≤ n
  · by_cases h2 : n ≤ hi
    · have HV := Lib.hid (show inB n lo hi = true by unfold inB; rw [decide_eq_true h1, decide_eq_true h2]; rfl)
      go_enter Try.func64, Try.ntmps64
      go_wp2
      go_ret
      exact ⟨ret_bool HV.out.symm, rfl⟩
    · have HV := Lib.hid (show inB n lo hi = false by unfold inB; rw [decide_eq_false h2]; simp)
      have d := decide_eq_false h2
      go_enter Try.func64, Try.ntmps64
      go_wp2
      go_ret
      exact ⟨ret_bool HV.out.symm, rfl⟩
  · have HV := Lib.hid (show inB n lo hi = false by unfold inB; rw [decide_eq_false h1]; simp)
    have d := decide_eq_false h1
    go_enter Try.func64, Try.ntmps64
    go_wp2
    go_ret
    exact ⟨ret_bool HV.out.symm, rfl⟩
end Go.Proofs.Ythfkfdfcgldbeaa
