/- The walk of isLong (cut out of LexI). -/
import Derived.Test.YtnbfjkebakaigaaTextFuncs
namespace Go.Proofs.Ytnbfjkebakaigaa
open Go.RowKit Go.Deep
set_option linter.unusedVariables false
set_option maxRecDepth 100000
theorem call_isLong1 (args : Array Value) (W : World) : (callFunc 168 args).run Try.prog W = .ok (.enter 168 args) W := by kernel_rfl
theorem impl_isLong1 (s : ByteArray) (w : World) : Calls Try.prog 168 #[.string s] w fun e w' => e = .returned (.bool (decide (65536 < s.size))) ∧ w = w' := by
  by_cases h : 65536 < s.size
  · have hI : (65536 : Int) < (s.size : Int) := by omega
    have HV := Lib.hid (decide_eq_true h)
    clear h
    go_enter Try.func168, Try.ntmps168
    go_wp2
    go_ret
    exact ⟨ret_bool (by rw [HV.out]; try simp [*]), rfl⟩
  · have hI : ¬ (65536 : Int) < (s.size : Int) := by omega
    have HV := Lib.hid (decide_eq_false h)
    clear h
    go_enter Try.func168, Try.ntmps168
    go_wp2
    go_ret
    exact ⟨ret_bool (by rw [HV.out]; try simp [*]), rfl⟩
theorem impl_isLong (A : Option Addr) (n cp : Nat) (l : List ByteArray) (w : World) (hl : l.length = n) (hn : n ≤ 1099511627776) (hr : Rd w A (l.map fun c => Value.string c)) :
    Calls Try.prog 127 #[.slice A n cp] w fun e w' => e = .returned (.bool (l.any fun s => decide (65536 < s.size))) ∧ w = w' := by
  have HC := Lib.hid (containsFunc_texts 168 (fun s => decide (65536 < s.size)) call_isLong1 A n cp l w (fun s _ W => impl_isLong1 s W) hl hn hr)
  generalize (l.any fun s => decide (65536 < s.size)) = r at HC ⊢
  clear hl hr
  go_enter Try.func127, Try.ntmps127
  go_wp2_with fail
  refine HC.out.mono ?_
  rintro e w' ⟨rfl, rfl⟩
  go_wp2_with fail
  go_ret
  exact ⟨rfl, rfl⟩
end Go.Proofs.Ytnbfjkebakaigaa
