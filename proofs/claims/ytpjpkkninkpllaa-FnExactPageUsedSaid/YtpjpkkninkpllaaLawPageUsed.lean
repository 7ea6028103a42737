/- The walk of FnExactPageUsed. -/
import Derived.Test.YtpjpkkninkpllaaLawPage
import Derived.Test.YtpjpkkninkpllaaPageUsed
namespace Go.Proofs.Ytpjpkkninkpllaa
open Go.RowKit Go.Deep
set_option linter.unusedVariables false
set_option maxHeartbeats 1000000 in
theorem walk_FnExactPageUsed (w : World) (k : Int) (A : Option Addr) (n cp : Nat) (l : List ByteArray) (wk : (Lit.int .i64 k).wf = true) (hl : l.length = n) (hc : n ≤ cp) (hm : cp ≤ maxLen) (hx : ∀ s ∈ l, s.size ≤ maxLen) (hr : Rd w A (l.map fun c => Value.string c)) :
    Calls Try.prog 11 #[.agg #[.int .i64 k, .slice A n cp]] w fun e w' => e = .returned (.bool true) ∧ Ext w w' := by
  have HL := Lib.hid hl
  have HX := Lib.hid hx
  clear hl hx wk
  unfold maxLen at hm
  have hB := Blk.new w 47 [.int .i64 k, .slice A n cp]
  have HS := fun W h => spec_PageUsed k (some ⟨h, 0, none⟩) n n l W HL.out
  have HI := fun W h => impl_PageUsed k (some ⟨h, 0, none⟩) n n l W HL.out
  generalize usedA k l = pa at HS HI
  generalize usedC k l = pc at HS HI
  have HS := Lib.hid HS
  have HI := Lib.hid HI
  go_enter Try.func11, Try.ntmps11
  go_wp2_with fail
  refine (szPage_any k A n cp l 1048576 _ HL.out (by omega) (by omega) (by omega) HX.out (hr.ext (by repeat (first | exact Ext.refl _ | assumption | refine Ext.alloc ?_ _ | refine Ext.drewN ?_ _ | refine Ext.drew ?_ | refine Ext.set ?_ (by dsimp only; omega) _ | refine Ext.trans ?_ (by assumption))))).mono ?_
  rintro e w1 ⟨v, rfl, hv1, hv2, hG, E1⟩
  have HG := Lib.hid hG
  clear hG
  by_cases hv : v < 0
  · go_wp2_with fail
    go_ret
    exact ⟨rfl, (by repeat (first | exact Ext.refl _ | assumption | refine Ext.alloc ?_ _ | refine Ext.drewN ?_ _ | refine Ext.drew ?_ | refine Ext.set ?_ (by dsimp only; omega) _ | refine Ext.trans ?_ (by assumption)))⟩
  · have hn : n ≤ 1099511627776 := by have := (HG.out (by omega)).1; rw [HL.out] at this; omega
    have B1 := hB.ext E1
    obtain ⟨c0, c1⟩ := B1.cells2
    have R1 : Rd w1 A (l.map fun c => Value.string c) := hr.ext (by repeat (first | exact Ext.refl _ | assumption | refine Ext.alloc ?_ _ | refine Ext.drewN ?_ _ | refine Ext.drew ?_ | refine Ext.set ?_ (by dsimp only; omega) _ | refine Ext.trans ?_ (by assumption)))
    go_wp2_with fail
    refine (toPage_any k A n cp l _ HL.out hn R1).mono ?_
    rintro e w2 ⟨b2, rfl, hb2, F2, E2⟩
    go_wp2_with fail
    refine (HS.out _ _ hn HX.out F2.rd).mono ?_
    rintro e w3 ⟨rfl, E3⟩
    obtain ⟨d0, d1⟩ := ((B1.ext E2).ext E3).cells2
    go_wp2_with fail
    refine (toPage_any k A n cp l _ HL.out hn ((R1.ext E2).ext E3)).mono ?_
    rintro e w4 ⟨b4, rfl, hb4, F4, E4⟩
    go_wp2_with fail
    refine (HI.out _ _ hn HX.out (F4.ext (by repeat (first | exact Ext.refl _ | assumption | refine Ext.alloc ?_ _ | refine Ext.drewN ?_ _ | refine Ext.drew ?_ | refine Ext.set ?_ (by dsimp only; omega) _ | refine Ext.trans ?_ (by assumption)))).rd).mono ?_
    rintro e w5 ⟨rfl, E5⟩
    go_wp2_with fail
    have Bx := (Blk.new w4 43 [.int .i64 k, .slice (some ⟨b4, 0, none⟩) n n]).ext E5
    have By : Blk w5 w.heap.size 47 [.int .i64 k, .slice A n cp] := B1.ext (by repeat (first | exact Ext.refl _ | assumption | refine Ext.alloc ?_ _ | refine Ext.drewN ?_ _ | refine Ext.drew ?_ | refine Ext.set ?_ (by dsimp only; omega) _ | refine Ext.trans ?_ (by assumption)))
    have R5 : Rd w5 A (l.map fun c => Value.string c) := R1.ext (by repeat (first | exact Ext.refl _ | assumption | refine Ext.alloc ?_ _ | refine Ext.drewN ?_ _ | refine Ext.drew ?_ | refine Ext.set ?_ (by dsimp only; omega) _ | refine Ext.trans ?_ (by assumption)))
    have F5 : Blk w5 b4 9 (l.map fun c => Value.string c) := F4.ext (by repeat (first | exact Ext.refl _ | assumption | refine Ext.alloc ?_ _ | refine Ext.drewN ?_ _ | refine Ext.drew ?_ | refine Ext.set ?_ (by dsimp only; omega) _ | refine Ext.trans ?_ (by assumption)))
    obtain ⟨x0, x1⟩ := Bx.cells2
    obtain ⟨y0, y1⟩ := By.cells2
    go_region_with (first | (go_at_call 33; refine (toPage_any k A n cp l _ HL.out hn ?_).mono ?_; (exact R5.ext (by repeat (first | exact Ext.refl _ | assumption | refine Ext.alloc ?_ _ | refine Ext.drewN ?_ _ | refine Ext.drew ?_ | refine Ext.set ?_ (by dsimp only; omega) _ | refine Ext.trans ?_ (by assumption)))); rintro e w6 ⟨b6, rfl, hb6, F6, E6⟩; obtain ⟨p0, p1⟩ := (Bx.ext (show Ext w5 w6 from (by repeat (first | exact Ext.refl _ | assumption | refine Ext.alloc ?_ _ | refine Ext.drewN ?_ _ | refine Ext.drew ?_ | refine Ext.set ?_ (by dsimp only; omega) _ | refine Ext.trans ?_ (by assumption))))).cells2) | (go_at_call 28; refine (eqPage_same k _ _ n n n l _ HL.out hn ?_ ?_).mono ?_; (exact (F5.ext (by repeat (first | exact Ext.refl _ | assumption | refine Ext.alloc ?_ _ | refine Ext.drewN ?_ _ | refine Ext.drew ?_ | refine Ext.set ?_ (by dsimp only; omega) _ | refine Ext.trans ?_ (by assumption)))).rd); (exact (F6.ext (by repeat (first | exact Ext.refl _ | assumption | refine Ext.alloc ?_ _ | refine Ext.drewN ?_ _ | refine Ext.drew ?_ | refine Ext.set ?_ (by dsimp only; omega) _ | refine Ext.trans ?_ (by assumption)))).rd); rintro e w7 ⟨rfl, E7⟩))
    all_goals
      go_wp2_with fail
      go_ret
      exact ⟨rfl, (by repeat (first | exact Ext.refl _ | assumption | refine Ext.alloc ?_ _ | refine Ext.drewN ?_ _ | refine Ext.drew ?_ | refine Ext.set ?_ (by dsimp only; omega) _ | refine Ext.trans ?_ (by assumption)))⟩
end Go.Proofs.Ytpjpkkninkpllaa
