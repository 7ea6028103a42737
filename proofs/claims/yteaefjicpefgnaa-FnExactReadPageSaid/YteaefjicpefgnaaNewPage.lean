/- The walk of FnExactNewPage. -/
import Derived.Test.YteaefjicpefgnaaLawPage
import Derived.Test.YteaefjicpefgnaaMark
namespace Go.Proofs.Yteaefjicpefgnaa
open Go.RowKit Go.Deep
set_option linter.unusedVariables false
set_option maxRecDepth 100000
theorem grown_pre {w w1 w2 : World} {b : Nat} (e : Ext w w1) (h : w1.grownBy w2 (some b)) : w.grownBy w2 (some b) :=
  ⟨h.os.trans e.os, h.tape.trans e.tape, h.output.trans e.output, Nat.le_trans e.le h.size, fun k hk hne => (h.block k (Nat.lt_of_lt_of_le hk e.le) hne).trans (Below.block e k hk)⟩
theorem markPage_any (b n cp : Nat) (x k : Int) (l : List ByteArray) (cs : List Value) (w : World) (hn : n ≤ 2000000) (h1 : 1 ≤ k) (h2 : k ≤ 4000000) (hl : l.length = n) (hB : Blk w b 9 ((l.map fun c => Value.string c) ++ cs)) :
    Calls Try.prog 39 #[.agg #[.int .i64 x, .slice (some ⟨b, 0, none⟩) n cp], .int .i64 k] w fun e w' => e = .returned (.int .i64 (k + n)) ∧ Blk w' b 9 ((marks k n).map (fun c => Value.string c) ++ cs) ∧ w.grownBy w' (some b) := by
  have HC := Lib.hid (markStringS_any b n cp k l cs (w.alloc (.cells #[.int .i64 x, .slice (some ⟨b, 0, none⟩) n cp] 45)) hn h1 h2 hl (hB.alloc _))
  clear hl hB
  go_enter Try.func39, Try.ntmps39
  go_wp2_with fail
  refine (HC.out).mono ?_
  rintro e w1 ⟨rfl, B1, G1⟩
  go_wp2_with fail
  go_ret
  exact ⟨rfl, B1, grown_pre (by repeat (first | exact Ext.refl _ | assumption | refine Ext.alloc ?_ _ | refine Ext.drewN ?_ _ | refine Ext.drew ?_ | refine Ext.set ?_ (by dsimp only; omega) _ | refine Ext.trans ?_ (by assumption))) G1⟩
theorem heldPage_any (A : Option Addr) (n cp : Nat) (x k : Int) (w : World) (hn : n ≤ 2000000) (h1 : 1 ≤ k) (h2 : k ≤ 4000000) (hr : Rd w A ((marks k n).map fun c => Value.string c)) :
    Calls Try.prog 42 #[.agg #[.int .i64 x, .slice A n cp], .int .i64 k] w fun e w' => e = .returned (.int .i64 (k + n)) ∧ Ext w w' := by
  have HC := Lib.hid (heldStringS_any A n cp k (w.alloc (.cells #[.int .i64 x, .slice A n cp] 45)) hn h1 h2 (hr.ext (by repeat (first | exact Ext.refl _ | assumption | refine Ext.alloc ?_ _ | refine Ext.drewN ?_ _ | refine Ext.drew ?_ | refine Ext.set ?_ (by dsimp only; omega) _ | refine Ext.trans ?_ (by assumption)))))
  clear hr
  have d : decide (k + (n : Int) < 0) = false := decide_eq_false (by omega)
  go_enter Try.func42, Try.ntmps42
  go_wp2_with fail
  refine (HC.out).mono ?_
  rintro e w1 ⟨rfl, E1⟩
  go_wp2_with fail
  go_ret
  exact ⟨rfl, (by repeat (first | exact Ext.refl _ | assumption | refine Ext.alloc ?_ _ | refine Ext.drewN ?_ _ | refine Ext.drew ?_ | refine Ext.set ?_ (by dsimp only; omega) _ | refine Ext.trans ?_ (by assumption)))⟩
end Go.Proofs.Yteaefjicpefgnaa
