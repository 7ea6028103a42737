/- TreeOK: both sides. -/
import Derived.Test.YthfkfdfcgldbeaaTreeQ
namespace Go.Proofs.Ythfkfdfcgldbeaa
open Go.RowKit Go.Deep
set_option linter.unusedVariables false
set_option maxRecDepth 100000
def okT (N : List CNode) (rt : Int) : Bool := (treeV N rt).isSome
theorem okT_some {N : List CNode} {rt : Int} {x : Nat × List ByteArray} (h : treeV N rt = some x) : okT N rt = true := by unfold okT; rw [h]; rfl
theorem okT_none {N : List CNode} {rt : Int} (h : treeV N rt = none) : okT N rt = false := by unfold okT; rw [h]; rfl
set_option maxHeartbeats 1000000 in
theorem spec_TreeOK (rt : Int) (An : Option Addr) (nn pn : Nat) (l : List XNode) (N : List CNode) (w : World) (hl : l.length = nn) (hN : l.map XNode.c = N) (hns : nn ≤ 1099511627776) (hx : XSm l) (hr : NsR w An l) :
    Calls Try.prog 53 #[.agg #[.int .i64 rt, .slice An nn pn]] w fun e w' => e = .returned (.bool (okT N rt)) ∧ Ext w w' := by
  have hE0 : Ext w (w.alloc (.cells #[.int .i64 rt, .slice An nn pn] 74)) := (by repeat (first | exact Ext.refl _ | assumption | refine Ext.alloc ?_ _ | refine Ext.drewN ?_ _ | refine Ext.drew ?_ | refine Ext.set ?_ (by dsimp only; omega) _ | refine Ext.trans ?_ (by assumption)))
  have HC := Lib.hid (spec_l09Walk rt An nn pn l N _ hl hN hns hx (hr.ext hE0))
  have HE0 := Lib.hid hE0
  clear hl hN hx hr hE0
  go_enter Try.func53, Try.ntmps53
  go_wp2_with fail
  refine HC.out.mono ?_
  rintro e w1 ⟨d, v, q, ok, rfl, ho, hE, -, -, -, hP⟩
  obtain ⟨A1, c1, rfl⟩ := own_slice ho
  have HO := Lib.hid (show ok = okT N rt by
    rcases hP with ⟨rfl, h⟩ | ⟨rfl, h⟩
    · exact (okT_some h).symm
    · exact (okT_none h).symm)
  clear hP ho
  go_wp2_with fail
  go_ret
  exact ⟨by (rw [HO.out]; try rfl), HE0.out.trans hE⟩
set_option maxHeartbeats 1000000 in
theorem impl_TreeOK (rt : Int) (An : Option Addr) (nn pn : Nat) (l : List XNode) (N : List CNode) (w : World) (hl : l.length = nn) (hN : l.map XNode.c = N) (hns : nn ≤ 1099511627776) (hx : XSm l) (hr : NsR w An l) :
    Calls Try.prog 55 #[.agg #[.int .i64 rt, .slice An nn pn]] w fun e w' => e = .returned (.bool (okT N rt)) ∧ Ext w w' := by
  have hE0 : Ext w (w.alloc (.cells #[.int .i64 rt, .slice An nn pn] 74)) := (by repeat (first | exact Ext.refl _ | assumption | refine Ext.alloc ?_ _ | refine Ext.drewN ?_ _ | refine Ext.drew ?_ | refine Ext.set ?_ (by dsimp only; omega) _ | refine Ext.trans ?_ (by assumption)))
  have HC := Lib.hid (impl_keys rt An nn pn l N _ hl hN hns hx (hr.ext hE0))
  have HE0 := Lib.hid hE0
  clear hl hN hx hr hE0
  go_enter Try.func55, Try.ntmps55
  go_wp2_with fail
  refine HC.out.mono ?_
  rintro e w1 ⟨v, ok, q, rfl, ho, hE, -, hP⟩
  obtain ⟨A1, c1, rfl⟩ := own_slice ho
  have HO := Lib.hid (show ok = okT N rt by
    rcases hP with ⟨rfl, d, h⟩ | ⟨rfl, h⟩
    · exact (okT_some h).symm
    · exact (okT_none h).symm)
  clear hP ho
  go_wp2_with fail
  go_ret
  exact ⟨by (rw [HO.out]; try rfl), HE0.out.trans hE⟩
end Go.Proofs.Ythfkfdfcgldbeaa
