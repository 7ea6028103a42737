/- The walks of the laws' helpers over Expr. -/
import Derived.Test.YthfkfdfcgldbeaaFlatExprNode
namespace Go.Proofs.Ythfkfdfcgldbeaa
open Go.RowKit Go.Deep
set_option linter.unusedVariables false
set_option maxRecDepth 100000
theorem szExpr_any (A : Option Addr) (n p : Nat) (l : List CExprNode) (left : Int) (w : World) (hl : l.length = n) (hn : n ≤ 9223372036854775807) (h0 : 0 ≤ left) (h1 : left ≤ 1048576) (hx : ∀ x ∈ l, x.s.size ≤ maxLen) (hr : Rd w A (l.flatMap CExprNode.cs)) :
    Calls Try.prog 30 #[.agg #[.slice A n p], .int .i64 left] w (SzPost w left ((l.length : Int) ≤ left ∧ ∀ x ∈ l, (x.s.size : Int) ≤ left)) := by
  have E0 : Ext w (w.alloc (.cells #[.slice A n p] 49)) := (by repeat (first | exact Ext.refl _ | assumption | refine Ext.alloc ?_ _ | refine Ext.drewN ?_ _ | refine Ext.drew ?_ | refine Ext.set ?_ (by dsimp only; omega) _ | refine Ext.trans ?_ (by assumption)))
  have HZ := Lib.hid (szExprNodeS_any A n p l left _ hl hn h0 h1 hx (hr.ext E0))
  have HE0 := Lib.hid E0
  clear hl hx hr E0
  go_enter Try.func30, Try.ntmps30
  go_wp2_with fail
  refine HZ.out.mono ?_
  rintro e w0 ⟨v0, rfl, g0, i0, hG0, E1⟩
  have HG0 := Lib.hid hG0
  clear hG0
  by_cases hv0 : v0 < 0
  · go_wp2_with fail
    go_ret
    exact ⟨-1, rfl, by omega, by omega, fun h => by omega, HE0.out.trans E1⟩
  go_wp2_with fail
  go_ret
  exact ⟨v0, rfl, by omega, by omega, fun h => HG0.out h, HE0.out.trans E1⟩
set_option maxHeartbeats 1000000 in
theorem toExpr_any (A : Option Addr) (n p : Nat) (l : List CExprNode) (w : World) (hl : l.length = n) (hn : n ≤ 1099511627776) (hr : Rd w A (l.flatMap CExprNode.cs)) :
    Calls Try.prog 32 #[.agg #[.slice A n p]] w fun e w' => ∃ b, e = .returned (.agg #[.slice (some ⟨b, 0, none⟩) n n]) ∧ w.heap.size ≤ b ∧ Blk w' b 155 (l.flatMap CExprNode.cs) ∧ Ext w w' := by
  have HX0 := Lib.hid (((Blk.new w 49 [.slice A n p]).alloc (.cells #[.slice none 0 0] 54)).alloc (.cells #[.slice none 0 0] 54))
  have hR := (Blk.new (w.alloc (.cells #[.slice A n p] 49)) 54 [.slice none 0 0]).alloc (.cells #[.slice none 0 0] 54)
  rw [World.size_alloc] at hR
  have hO := Blk.new ((w.alloc (.cells #[.slice A n p] 49)).alloc (.cells #[.slice none 0 0] 54)) 54 [.slice none 0 0]
  rw [World.size_alloc, World.size_alloc] at hO
  have HE0 := Lib.hid (show Ext w (((w.alloc (.cells #[.slice A n p] 49)).alloc (.cells #[.slice none 0 0] 54)).alloc (.cells #[.slice none 0 0] 54)) from (by repeat (first | exact Ext.refl _ | assumption | refine Ext.alloc ?_ _ | refine Ext.drewN ?_ _ | refine Ext.drew ?_ | refine Ext.set ?_ (by dsimp only; omega) _ | refine Ext.trans ?_ (by assumption))))
  have HR0 := Lib.hid hR
  have HO0 := Lib.hid hO
  clear hR hO
  have HL := Lib.hid hl
  clear hl
  go_enter Try.func32, Try.ntmps32
  go_wp2_with fail
  generalize ((w.alloc (.cells #[.slice A n p] 49)).alloc (.cells #[.slice none 0 0] 54)).alloc (.cells #[.slice none 0 0] 54) = y0 at HX0 HR0 HO0 HE0 ⊢
  refine (toExprNodeS_any A n p l _ HL.out hn (hr.ext HE0.out)).mono ?_
  rintro e w0 ⟨rfl, hF, E⟩
  have HF := Lib.hid hF
  have HG0 := Lib.hid (HE0.out.trans E)
  have hX := HX0.out.ext E
  have hR := HR0.out.ext E
  have hO := HO0.out.ext E
  have hbn : w.heap.size ≤ y0.heap.size := HE0.out.le
  have hcn : w.heap.size + 1 + 1 < y0.heap.size := HO0.out.lt
  generalize y0.heap.size = b at HF hbn hcn ⊢
  have x0 := hX.cell (i := 0) (by simp)
  have r0 := hR.cell (i := 0) (by simp)
  have o0 := hO.cell (i := 0) (by simp)
  simp only [List.getElem_cons_zero] at x0 r0 o0
  have s0 := hO.frozen 0
  have u0 := hR.frozen 0
  clear E hF
  go_wp2_with fail
  refine bodyPost_ret (v := .agg #[.slice (some ⟨b, 0, none⟩) n n]) (by simp [results, Try.results32, go_sem, r0]) rfl ⟨b, rfl, hbn, ?_, ?_⟩
  · exact (Blk.far (Blk.far HF.out (by dsimp only; omega) _) (by dsimp only; omega) _)
  · exact (Ext.set (Ext.set HG0.out (by dsimp only; omega) _) (by dsimp only; omega) _)
theorem eqExpr_same (A A' : Option Addr) (n p p' : Nat) (l : List CExprNode) (w : World) (hl : l.length = n) (hn : n ≤ 1099511627776) (hr : Rd w A (l.flatMap CExprNode.cs)) (hr' : Rd w A' (l.flatMap CExprNode.cs)) :
    Calls Try.prog 34 #[.agg #[.slice A n p], .agg #[.slice A' n p']] w fun e w' => e = .returned (.bool true) ∧ Ext w w' := by
  have E0 : Ext w ((w.alloc (.cells #[.slice A n p] 54)).alloc (.cells #[.slice A' n p'] 54)) := (by repeat (first | exact Ext.refl _ | assumption | refine Ext.alloc ?_ _ | refine Ext.drewN ?_ _ | refine Ext.drew ?_ | refine Ext.set ?_ (by dsimp only; omega) _ | refine Ext.trans ?_ (by assumption)))
  have HZ := Lib.hid (eqExprNodeS_same A A' n p p' l _ hl hn (hr.ext E0) (hr'.ext E0))
  have HE0 := Lib.hid E0
  clear hl hr hr' E0
  go_enter Try.func34, Try.ntmps34
  go_wp2_with fail
  refine HZ.out.mono ?_
  rintro e w1 ⟨rfl, E1⟩
  go_wp2_with fail
  go_ret
  exact ⟨rfl, HE0.out.trans E1⟩
end Go.Proofs.Ythfkfdfcgldbeaa
