/- The laws' helpers over pages; the walks of FnExactPageOK and FnExactPageUsed. -/
import Derived.Test.YteaefjicpefgnaaPage
namespace Go.Proofs.Yteaefjicpefgnaa
open Go.RowKit Go.Deep
set_option linter.unusedVariables false
set_option maxRecDepth 100000
theorem szPage_any (k : Int) (A : Option Addr) (n cp : Nat) (l : List ByteArray) (left : Int) (w : World) (hl : l.length = n) (hn : n ≤ 9223372036854775807) (h0 : 0 ≤ left) (h1 : left ≤ 1048576) (hx : ∀ s ∈ l, s.size ≤ maxLen) (hr : Rd w A (l.map fun c => Value.string c)) :
    Calls Try.prog 34 #[.agg #[.int .i64 k, .slice A n cp], .int .i64 left] w (SzPost w left ((l.length : Int) ≤ left ∧ ∀ s ∈ l, (s.size : Int) ≤ left)) := by
  have HC := Lib.hid (szStringS_any A n cp l left (w.alloc (.cells #[.int .i64 k, .slice A n cp] 42)) hl hn h0 h1 hx (hr.ext ((Ext.refl w).alloc _)))
  clear hl hx hr
  go_enter Try.func34, Try.ntmps34
  go_wp2_with fail
  refine (HC.out).mono ?_
  rintro e w1 ⟨v, rfl, h2, h3, h4, E1⟩
  have H4 := Lib.hid h4
  clear h4
  by_cases hv : v < 0
  · go_wp2_with fail
    go_ret
    exact ⟨-1, rfl, by omega, by omega, fun h => by omega, (by repeat (first | exact Ext.refl _ | assumption | refine Ext.alloc ?_ _ | refine Ext.drewN ?_ _ | refine Ext.drew ?_ | refine Ext.set ?_ (by dsimp only; omega) _ | refine Ext.trans ?_ (by assumption)))⟩
  · go_wp2_with fail
    go_ret
    exact ⟨v, rfl, by omega, by omega, H4.out, (by repeat (first | exact Ext.refl _ | assumption | refine Ext.alloc ?_ _ | refine Ext.drewN ?_ _ | refine Ext.drew ?_ | refine Ext.set ?_ (by dsimp only; omega) _ | refine Ext.trans ?_ (by assumption)))⟩
/-- a page in memory of its own -/
def FreshPage (w : World) (k : Int) (n : Nat) (l : List ByteArray) (e : Ending) (w' : World) : Prop :=
  ∃ b, e = .returned (.agg #[.int .i64 k, .slice (some ⟨b, 0, none⟩) n n]) ∧ w.heap.size ≤ b ∧ Blk w' b 9 (l.map fun c => Value.string c) ∧ Ext w w'
set_option maxHeartbeats 400000 in
theorem toPage_any (k : Int) (A : Option Addr) (n cp : Nat) (l : List ByteArray) (w : World) (hl : l.length = n) (hn : n ≤ 1099511627776) (hr : Rd w A (l.map fun c => Value.string c)) :
    Calls Try.prog 36 #[.agg #[.int .i64 k, .slice A n cp]] w (FreshPage w k n l) := by
  have HL := Lib.hid hl
  clear hl
  go_enter Try.func36, Try.ntmps36
  go_wp2_with fail
  have B2 := ((Blk.new (w.alloc (.cells #[.int .i64 k, .slice A n cp] 42)) 45 [.int .i64 0, .slice none 0 0]).alloc (.cells #[.int .i64 k, .slice none 0 0] 45))
  have B3 := Blk.new ((w.alloc (.cells #[.int .i64 k, .slice A n cp] 42)).alloc (.cells #[.int .i64 0, .slice none 0 0] 45)) 45 [.int .i64 k, .slice none 0 0]
  rw [World.size_alloc] at B2
  rw [World.size_alloc, World.size_alloc] at B3
  refine (toStringS_any A n cp l _ HL.out hn (hr.ext (by repeat (first | exact Ext.refl _ | assumption | refine Ext.alloc ?_ _ | refine Ext.drewN ?_ _ | refine Ext.drew ?_ | refine Ext.set ?_ (by dsimp only; omega) _ | refine Ext.trans ?_ (by assumption))))).mono ?_
  rintro e w1 ⟨rfl, B4, hs, E1⟩
  have B2 := B2.ext E1
  have B3 := B3.ext E1
  obtain ⟨c0, c1⟩ := B2.cells2
  obtain ⟨d0, d1⟩ := B3.cells2
  have f0 := B2.frozen 0
  have f1 := B2.frozen 1
  have g1 := B3.frozen 1
  go_wp2_with fail
  refine bodyPost_ret (v := .agg #[.int .i64 k, .slice (some ⟨w.heap.size + 1 + 1 + 1, 0, none⟩) n n]) (by simp [results, Try.results36, go_sem, c0, c1]) rfl ⟨_, rfl, by omega, ?_, ?_⟩
  · refine ((Blk.far ?_ (by dsimp only; omega) _).far (by dsimp only; omega) _).far (by dsimp only; omega) _
    rw [World.size_alloc, World.size_alloc, World.size_alloc] at B4
    exact B4
  · have E0 : Ext w w1 := (by repeat (first | exact Ext.refl _ | assumption | refine Ext.alloc ?_ _ | refine Ext.drewN ?_ _ | refine Ext.drew ?_ | refine Ext.set ?_ (by dsimp only; omega) _ | refine Ext.trans ?_ (by assumption)))
    exact ((E0.set (by dsimp only; omega) _).set (by dsimp only; omega) _).set (by dsimp only; omega) _
theorem eqPage_same (k : Int) (A A' : Option Addr) (n cp cp' : Nat) (l : List ByteArray) (w : World) (hl : l.length = n) (hn : n ≤ 1099511627776) (hr : Rd w A (l.map fun c => Value.string c)) (hr' : Rd w A' (l.map fun c => Value.string c)) :
    Calls Try.prog 38 #[.agg #[.int .i64 k, .slice A n cp], .agg #[.int .i64 k, .slice A' n cp']] w fun e w' => e = .returned (.bool true) ∧ Ext w w' := by
  have HC := Lib.hid (eqStringS_same A A' n cp cp' l ((w.alloc (.cells #[.int .i64 k, .slice A n cp] 45)).alloc (.cells #[.int .i64 k, .slice A' n cp'] 45)) hl hn (hr.ext (by repeat (first | exact Ext.refl _ | assumption | refine Ext.alloc ?_ _ | refine Ext.drewN ?_ _ | refine Ext.drew ?_ | refine Ext.set ?_ (by dsimp only; omega) _ | refine Ext.trans ?_ (by assumption)))) (hr'.ext (by repeat (first | exact Ext.refl _ | assumption | refine Ext.alloc ?_ _ | refine Ext.drewN ?_ _ | refine Ext.drew ?_ | refine Ext.set ?_ (by dsimp only; omega) _ | refine Ext.trans ?_ (by assumption)))))
  clear hl hr hr'
  go_enter Try.func38, Try.ntmps38
  go_wp2_with fail
  refine (HC.out).mono ?_
  rintro e w1 ⟨rfl, E1, _⟩
  go_wp2_with fail
  go_ret
  exact ⟨rfl, (by repeat (first | exact Ext.refl _ | assumption | refine Ext.alloc ?_ _ | refine Ext.drewN ?_ _ | refine Ext.drew ?_ | refine Ext.set ?_ (by dsimp only; omega) _ | refine Ext.trans ?_ (by assumption)))⟩
end Go.Proofs.Yteaefjicpefgnaa
