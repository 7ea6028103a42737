/- The laws' helpers over pages; the walks of FnExactPageOK and FnExactPageUsed. -/
import Derived.Test.YtpjpkkninkpllaaPage
namespace Go.Proofs.Ytpjpkkninkpllaa
open Go.RowKit Go.Deep
set_option linter.unusedVariables false
theorem szPage_any (k : Int) (A : Option Addr) (n cp : Nat) (l : List ByteArray) (left : Int) (w : World) (hl : l.length = n) (hn : n ≤ 9223372036854775807) (h0 : 0 ≤ left) (h1 : left ≤ 1048576) (hx : ∀ s ∈ l, s.size ≤ maxLen) (hr : Rd w A (l.map fun c => Value.string c)) :
    Calls Try.prog 31 #[.agg #[.int .i64 k, .slice A n cp], .int .i64 left] w (SzPost w left ((l.length : Int) ≤ left ∧ ∀ s ∈ l, (s.size : Int) ≤ left)) := by
  have HC := Lib.hid (szStringS_any A n cp l left (w.alloc (.cells #[.int .i64 k, .slice A n cp] 47)) hl hn h0 h1 hx (hr.ext ((Ext.refl w).alloc _)))
  clear hl hx hr
  go_enter Try.func31, Try.ntmps31
  go_wp2_with fail
  refine (HC.out).mono ?_
  rintro e w1 ⟨v, rfl, h2, h3, h4, E1⟩
  have H4 := Lib.hid h4
  clear h4
  by_cases hv : v < 0
  · go_wp2_with fail
    go_ret
    exact ⟨-1, rfl, by omega, by omega, fun h => by omega, (by repeat (first | exact Ext.refl _ | assumption | refine Ext.alloc ?_ _ | refine Ext.drewN ?_ _ | refine Ext.drew ?_ | refine Ext.set ?_ (by dsimp only; omega) _ | refine Ext.trans ?_ (by assumption)))⟩
  · go_wp2_with fail
    go_ret
    exact ⟨v, rfl, by omega, by omega, H4.out, (by repeat (first | exact Ext.refl _ | assumption | refine Ext.alloc ?_ _ | refine Ext.drewN ?_ _ | refine Ext.drew ?_ | refine Ext.set ?_ (by dsimp only; omega) _ | refine Ext.trans ?_ (by assumption)))⟩
/-- a page in memory of its own -/
def FreshPage (w : World) (k : Int) (n : Nat) (l : List ByteArray) (e : Ending) (w' : World) : Prop :=
  ∃ b, e = .returned (.agg #[.int .i64 k, .slice (some ⟨b, 0, none⟩) n n]) ∧ w.heap.size ≤ b ∧ Blk w' b 9 (l.map fun c => Value.string c) ∧ Ext w w'
set_option maxHeartbeats 400000 in
theorem toPage_any (k : Int) (A : Option Addr) (n cp : Nat) (l : List ByteArray) (w : World) (hl : l.length = n) (hn : n ≤ 1099511627776) (hr : Rd w A (l.map fun c => Value.string c)) :
    Calls Try.prog 33 #[.agg #[.int .i64 k, .slice A n cp]] w (FreshPage w k n l) := by
  have HL := Lib.hid hl
  clear hl
  go_enter Try.func33, Try.ntmps33
  go_wp2_with fail
  have B2 := ((Blk.new (w.alloc (.cells #[.int .i64 k, .slice A n cp] 47)) 43 [.int .i64 0, .slice none 0 0]).alloc (.cells #[.int .i64 k, .slice none 0 0] 43))
  have B3 := Blk.new ((w.alloc (.cells #[.int .i64 k, .slice A n cp] 47)).alloc (.cells #[.int .i64 0, .slice none 0 0] 43)) 43 [.int .i64 k, .slice none 0 0]
  rw [World.size_alloc] at B2
  rw [World.size_alloc, World.size_alloc] at B3
  refine (toStringS_any A n cp l _ HL.out hn (hr.ext (by repeat (first | exact Ext.refl _ | assumption | refine Ext.alloc ?_ _ | refine Ext.drewN ?_ _ | refine Ext.drew ?_ | refine Ext.set ?_ (by dsimp only; omega) _ | refine Ext.trans ?_ (by assumption))))).mono ?_
  rintro e w1 ⟨rfl, B4, hs, E1⟩
  have B2 := B2.ext E1
  have B3 := B3.ext E1
  obtain ⟨c0, c1⟩ := B2.cells2
  obtain ⟨d0, d1⟩ := B3.cells2
  have f0 := B2.frozen 0
  have f1 := B2.frozen 1
  have g1 := B3.frozen 1
  go_wp2_with fail
  refine bodyPost_ret (v := .agg #[.int .i64 k, .slice (some ⟨w.heap.size + 1 + 1 + 1, 0, none⟩) n n]) (by simp [results, Try.results33, go_sem, c0, c1]) rfl ⟨_, rfl, by omega, ?_, ?_⟩
  · refine ((Blk.far ?_ (by dsimp only; omega) _).far (by dsimp only; omega) _).far (by dsimp only; omega) _
    rw [World.size_alloc, World.size_alloc, World.size_alloc] at B4
    exact B4
  · have E0 : Ext w w1 := (by repeat (first | exact Ext.refl _ | assumption | refine Ext.alloc ?_ _ | refine Ext.drewN ?_ _ | refine Ext.drew ?_ | refine Ext.set ?_ (by dsimp only; omega) _ | refine Ext.trans ?_ (by assumption)))
    exact ((E0.set (by dsimp only; omega) _).set (by dsimp only; omega) _).set (by dsimp only; omega) _
theorem eqPage_same (k : Int) (A A' : Option Addr) (n cp cp' : Nat) (l : List ByteArray) (w : World) (hl : l.length = n) (hn : n ≤ 1099511627776) (hr : Rd w A (l.map fun c => Value.string c)) (hr' : Rd w A' (l.map fun c => Value.string c)) :
    Calls Try.prog 28 #[.agg #[.int .i64 k, .slice A n cp], .agg #[.int .i64 k, .slice A' n cp']] w fun e w' => e = .returned (.bool true) ∧ Ext w w' := by
  have HC := Lib.hid (eqStringS_same A A' n cp cp' l ((w.alloc (.cells #[.int .i64 k, .slice A n cp] 43)).alloc (.cells #[.int .i64 k, .slice A' n cp'] 43)) hl hn (hr.ext (by repeat (first | exact Ext.refl _ | assumption | refine Ext.alloc ?_ _ | refine Ext.drewN ?_ _ | refine Ext.drew ?_ | refine Ext.set ?_ (by dsimp only; omega) _ | refine Ext.trans ?_ (by assumption)))) (hr'.ext (by repeat (first | exact Ext.refl _ | assumption | refine Ext.alloc ?_ _ | refine Ext.drewN ?_ _ | refine Ext.drew ?_ | refine Ext.set ?_ (by dsimp only; omega) _ | refine Ext.trans ?_ (by assumption)))))
  clear hl hr hr'
  go_enter Try.func28, Try.ntmps28
  go_wp2_with fail
  refine (HC.out).mono ?_
  rintro e w1 ⟨rfl, E1, _⟩
  go_wp2_with fail
  go_ret
  exact ⟨rfl, (by repeat (first | exact Ext.refl _ | assumption | refine Ext.alloc ?_ _ | refine Ext.drewN ?_ _ | refine Ext.drew ?_ | refine Ext.set ?_ (by dsimp only; omega) _ | refine Ext.trans ?_ (by assumption)))⟩
set_option maxHeartbeats 1000000 in
theorem walk_FnExactPageOK (w : World) (k : Int) (A : Option Addr) (n cp : Nat) (l : List ByteArray) (wk : (Lit.int .i64 k).wf = true) (hl : l.length = n) (hc : n ≤ cp) (hm : cp ≤ maxLen) (hx : ∀ s ∈ l, s.size ≤ maxLen) (hr : Rd w A (l.map fun c => Value.string c)) :
    Calls Try.prog 10 #[.agg #[.int .i64 k, .slice A n cp]] w fun e w' => e = .returned (.bool true) ∧ Ext w w' := by
  have HL := Lib.hid hl
  have HX := Lib.hid hx
  clear hl hx wk
  unfold maxLen at hm
  have hB := Blk.new w 47 [.int .i64 k, .slice A n cp]
  have HS := fun W h => spec_PageOK k (some ⟨h, 0, none⟩) n n l W HL.out
  have HI := fun W h => impl_PageOK k (some ⟨h, 0, none⟩) n n l W HL.out
  generalize pageB k l = pb at HS HI
  have HS := Lib.hid HS
  have HI := Lib.hid HI
  go_enter Try.func10, Try.ntmps10
  go_wp2_with fail
  refine (szPage_any k A n cp l 1048576 _ HL.out (by omega) (by omega) (by omega) HX.out (hr.ext (by repeat (first | exact Ext.refl _ | assumption | refine Ext.alloc ?_ _ | refine Ext.drewN ?_ _ | refine Ext.drew ?_ | refine Ext.set ?_ (by dsimp only; omega) _ | refine Ext.trans ?_ (by assumption))))).mono ?_
  rintro e w1 ⟨v, rfl, hv1, hv2, hG, E1⟩
  have HG := Lib.hid hG
  clear hG
  by_cases hv : v < 0
  · go_wp2_with fail
    go_ret
    exact ⟨rfl, (by repeat (first | exact Ext.refl _ | assumption | refine Ext.alloc ?_ _ | refine Ext.drewN ?_ _ | refine Ext.drew ?_ | refine Ext.set ?_ (by dsimp only; omega) _ | refine Ext.trans ?_ (by assumption)))⟩
  · have hn : n ≤ 1099511627776 := by have := (HG.out (by omega)).1; rw [HL.out] at this; omega
    have B1 := hB.ext E1
    obtain ⟨c0, c1⟩ := B1.cells2
    have R1 : Rd w1 A (l.map fun c => Value.string c) := hr.ext (by repeat (first | exact Ext.refl _ | assumption | refine Ext.alloc ?_ _ | refine Ext.drewN ?_ _ | refine Ext.drew ?_ | refine Ext.set ?_ (by dsimp only; omega) _ | refine Ext.trans ?_ (by assumption)))
    go_wp2_with fail
    refine (toPage_any k A n cp l _ HL.out hn R1).mono ?_
    rintro e w2 ⟨b2, rfl, hb2, F2, E2⟩
    go_wp2_with fail
    refine (HS.out _ _ hn HX.out F2.rd).mono ?_
    rintro e w3 ⟨rfl, E3⟩
    obtain ⟨d0, d1⟩ := ((B1.ext E2).ext E3).cells2
    go_wp2_with fail
    refine (toPage_any k A n cp l _ HL.out hn ((R1.ext E2).ext E3)).mono ?_
    rintro e w4 ⟨b4, rfl, hb4, F4, E4⟩
    go_wp2_with fail
    refine (HI.out _ _ hn HX.out (F4.ext (by repeat (first | exact Ext.refl _ | assumption | refine Ext.alloc ?_ _ | refine Ext.drewN ?_ _ | refine Ext.drew ?_ | refine Ext.set ?_ (by dsimp only; omega) _ | refine Ext.trans ?_ (by assumption)))).rd).mono ?_
    rintro e w5 ⟨rfl, E5⟩
    go_wp2_with fail
    have Bx := (Blk.new w4 43 [.int .i64 k, .slice (some ⟨b4, 0, none⟩) n n]).ext E5
    have By : Blk w5 w.heap.size 47 [.int .i64 k, .slice A n cp] := B1.ext (by repeat (first | exact Ext.refl _ | assumption | refine Ext.alloc ?_ _ | refine Ext.drewN ?_ _ | refine Ext.drew ?_ | refine Ext.set ?_ (by dsimp only; omega) _ | refine Ext.trans ?_ (by assumption)))
    have R5 : Rd w5 A (l.map fun c => Value.string c) := R1.ext (by repeat (first | exact Ext.refl _ | assumption | refine Ext.alloc ?_ _ | refine Ext.drewN ?_ _ | refine Ext.drew ?_ | refine Ext.set ?_ (by dsimp only; omega) _ | refine Ext.trans ?_ (by assumption)))
    have F5 : Blk w5 b4 9 (l.map fun c => Value.string c) := F4.ext (by repeat (first | exact Ext.refl _ | assumption | refine Ext.alloc ?_ _ | refine Ext.drewN ?_ _ | refine Ext.drew ?_ | refine Ext.set ?_ (by dsimp only; omega) _ | refine Ext.trans ?_ (by assumption)))
    obtain ⟨x0, x1⟩ := Bx.cells2
    obtain ⟨y0, y1⟩ := By.cells2
    go_region_with (first | (go_at_call 33; refine (toPage_any k A n cp l _ HL.out hn ?_).mono ?_; (exact R5.ext (by repeat (first | exact Ext.refl _ | assumption | refine Ext.alloc ?_ _ | refine Ext.drewN ?_ _ | refine Ext.drew ?_ | refine Ext.set ?_ (by dsimp only; omega) _ | refine Ext.trans ?_ (by assumption)))); rintro e w6 ⟨b6, rfl, hb6, F6, E6⟩; obtain ⟨p0, p1⟩ := (Bx.ext (show Ext w5 w6 from (by repeat (first | exact Ext.refl _ | assumption | refine Ext.alloc ?_ _ | refine Ext.drewN ?_ _ | refine Ext.drew ?_ | refine Ext.set ?_ (by dsimp only; omega) _ | refine Ext.trans ?_ (by assumption))))).cells2) | (go_at_call 28; refine (eqPage_same k _ _ n n n l _ HL.out hn ?_ ?_).mono ?_; (exact (F5.ext (by repeat (first | exact Ext.refl _ | assumption | refine Ext.alloc ?_ _ | refine Ext.drewN ?_ _ | refine Ext.drew ?_ | refine Ext.set ?_ (by dsimp only; omega) _ | refine Ext.trans ?_ (by assumption)))).rd); (exact (F6.ext (by repeat (first | exact Ext.refl _ | assumption | refine Ext.alloc ?_ _ | refine Ext.drewN ?_ _ | refine Ext.drew ?_ | refine Ext.set ?_ (by dsimp only; omega) _ | refine Ext.trans ?_ (by assumption)))).rd); rintro e w7 ⟨rfl, E7⟩))
    all_goals
      go_wp2_with fail
      go_ret
      exact ⟨rfl, (by repeat (first | exact Ext.refl _ | assumption | refine Ext.alloc ?_ _ | refine Ext.drewN ?_ _ | refine Ext.drew ?_ | refine Ext.set ?_ (by dsimp only; omega) _ | refine Ext.trans ?_ (by assumption)))⟩
end Go.Proofs.Ytpjpkkninkpllaa
