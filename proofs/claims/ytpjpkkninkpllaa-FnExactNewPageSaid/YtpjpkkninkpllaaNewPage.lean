/- The walk of FnExactNewPage. -/
import Derived.Test.YtpjpkkninkpllaaLawPage
import Derived.Test.YtpjpkkninkpllaaMark
namespace Go.Proofs.Ytpjpkkninkpllaa
open Go.RowKit Go.Deep
set_option linter.unusedVariables false
theorem grown_pre {w w1 w2 : World} {b : Nat} (e : Ext w w1) (h : w1.grownBy w2 (some b)) : w.grownBy w2 (some b) :=
  ⟨h.os.trans e.os, h.tape.trans e.tape, h.output.trans e.output, Nat.le_trans e.le h.size, fun k hk hne => (h.block k (Nat.lt_of_lt_of_le hk e.le) hne).trans (Below.block e k hk)⟩
theorem markPage_any (b n cp : Nat) (x k : Int) (l : List ByteArray) (cs : List Value) (w : World) (hn : n ≤ 2000000) (h1 : 1 ≤ k) (h2 : k ≤ 4000000) (hl : l.length = n) (hB : Blk w b 9 ((l.map fun c => Value.string c) ++ cs)) :
    Calls Try.prog 29 #[.agg #[.int .i64 x, .slice (some ⟨b, 0, none⟩) n cp], .int .i64 k] w fun e w' => e = .returned (.int .i64 (k + n)) ∧ Blk w' b 9 ((marks k n).map (fun c => Value.string c) ++ cs) ∧ w.grownBy w' (some b) := by
  have HC := Lib.hid (markStringS_any b n cp k l cs (w.alloc (.cells #[.int .i64 x, .slice (some ⟨b, 0, none⟩) n cp] 43)) hn h1 h2 hl (hB.alloc _))
  clear hl hB
  go_enter Try.func29, Try.ntmps29
  go_wp2_with fail
  refine (HC.out).mono ?_
  rintro e w1 ⟨rfl, B1, G1⟩
  go_wp2_with fail
  go_ret
  exact ⟨rfl, B1, grown_pre (by repeat (first | exact Ext.refl _ | assumption | refine Ext.alloc ?_ _ | refine Ext.drewN ?_ _ | refine Ext.drew ?_ | refine Ext.set ?_ (by dsimp only; omega) _ | refine Ext.trans ?_ (by assumption))) G1⟩
theorem heldPage_any (A : Option Addr) (n cp : Nat) (x k : Int) (w : World) (hn : n ≤ 2000000) (h1 : 1 ≤ k) (h2 : k ≤ 4000000) (hr : Rd w A ((marks k n).map fun c => Value.string c)) :
    Calls Try.prog 30 #[.agg #[.int .i64 x, .slice A n cp], .int .i64 k] w fun e w' => e = .returned (.int .i64 (k + n)) ∧ Ext w w' := by
  have HC := Lib.hid (heldStringS_any A n cp k (w.alloc (.cells #[.int .i64 x, .slice A n cp] 43)) hn h1 h2 (hr.ext (by repeat (first | exact Ext.refl _ | assumption | refine Ext.alloc ?_ _ | refine Ext.drewN ?_ _ | refine Ext.drew ?_ | refine Ext.set ?_ (by dsimp only; omega) _ | refine Ext.trans ?_ (by assumption)))))
  clear hr
  have d : decide (k + (n : Int) < 0) = false := decide_eq_false (by omega)
  go_enter Try.func30, Try.ntmps30
  go_wp2_with fail
  refine (HC.out).mono ?_
  rintro e w1 ⟨rfl, E1⟩
  go_wp2_with fail
  go_ret
  exact ⟨rfl, (by repeat (first | exact Ext.refl _ | assumption | refine Ext.alloc ?_ _ | refine Ext.drewN ?_ _ | refine Ext.drew ?_ | refine Ext.set ?_ (by dsimp only; omega) _ | refine Ext.trans ?_ (by assumption)))⟩
theorem make_four (w : World) : (Instr.makeSlice 41 (.int .i64 4) (.int .i64 4)).run Try.prog w = .ok (.slice (some ⟨w.heap.size, 0, none⟩) 4 4) (w.alloc (.cells (madeCells #[.string ByteArray.empty] 4) 9)) :=
  run_make_row' (P := Try.prog) 41 9 (.string ByteArray.empty) 16 Try.underlying41 info_StringS rfl .i64 .i64 4 (by omega) (by omega) w
theorem spec_NewPage (w : World) : Calls Try.prog 26 #[] w (FreshPage w 0 4 (List.replicate 4 ByteArray.empty)) := by
  have hmk := make_four
  go_enter Try.func26, Try.ntmps26
  go_wp2
  refine bodyPost_ret (v := .agg #[.int .i64 0, .slice (some ⟨w.heap.size + 1, 0, none⟩) 4 4]) (by simp [results, Try.results26, go_sem]) rfl ⟨w.heap.size + 1, rfl, by omega, ?_, (by repeat (first | exact Ext.refl _ | assumption | refine Ext.alloc ?_ _ | refine Ext.drewN ?_ _ | refine Ext.drew ?_ | refine Ext.set ?_ (by dsimp only; omega) _ | refine Ext.trans ?_ (by assumption)))⟩
  have h := Blk.made (w.alloc (.cells #[.int .i64 0, .slice (some ⟨w.heap.size + 1, 0, none⟩) 4 4] 43)) 9 (.string ByteArray.empty) 4
  rw [World.size_alloc] at h
  exact h.of_eq (by simp)
theorem impl_NewPage (w : World) : Calls Try.prog 27 #[] w (FreshPage w 0 4 (List.replicate 4 ByteArray.empty)) := by
  have hmk := make_four
  go_enter Try.func27, Try.ntmps27
  go_wp2
  refine bodyPost_ret (v := .agg #[.int .i64 0, .slice (some ⟨w.heap.size + 1, 0, none⟩) 4 4]) (by simp [results, Try.results27, go_sem]) rfl ⟨w.heap.size + 1, rfl, by omega, ?_, (by repeat (first | exact Ext.refl _ | assumption | refine Ext.alloc ?_ _ | refine Ext.drewN ?_ _ | refine Ext.drew ?_ | refine Ext.set ?_ (by dsimp only; omega) _ | refine Ext.trans ?_ (by assumption)))⟩
  have h := Blk.made (w.alloc (.cells #[.int .i64 0, .slice (some ⟨w.heap.size + 1, 0, none⟩) 4 4] 43)) 9 (.string ByteArray.empty) 4
  rw [World.size_alloc] at h
  exact h.of_eq (by simp)
set_option maxHeartbeats 1000000 in
theorem walk_FnExactNewPage (w : World) : Calls Try.prog 9 #[] w fun e w' => e = .returned (.bool true) ∧ Ext w w' := by
  obtain ⟨L, hL⟩ : ∃ L, L = List.replicate 4 ByteArray.empty := ⟨_, rfl⟩
  have hS := spec_NewPage
  have hI := impl_NewPage
  have hl : L.length = 4 := by rw [hL]; rfl
  rw [← hL] at hS hI
  have HS := Lib.hid hS
  have HI := Lib.hid hI
  have HL := Lib.hid hl
  clear hS hI hl hL
  go_enter Try.func9, Try.ntmps9
  go_wp2_with fail
  refine (HS.out _).mono ?_
  rintro e w1 ⟨b1, rfl, hb1, F1, E1⟩
  go_wp2_with fail
  have X1 := Blk.new w1 43 [.int .i64 0, .slice (some ⟨b1, 0, none⟩) 4 4]
  have E1' : Ext w (w1.alloc (.cells #[.int .i64 0, .slice (some ⟨b1, 0, none⟩) 4 4] 43)) := (by repeat (first | exact Ext.refl _ | assumption | refine Ext.alloc ?_ _ | refine Ext.drewN ?_ _ | refine Ext.drew ?_ | refine Ext.set ?_ (by dsimp only; omega) _ | refine Ext.trans ?_ (by assumption)))
  have F1' := F1.alloc (.cells #[.int .i64 0, .slice (some ⟨b1, 0, none⟩) 4 4] 43)
  have S1 := F1'.lt
  have S1b := X1.lt
  refine (HI.out _).mono ?_
  rintro e w2 ⟨b2, rfl, hb2, F2, E2⟩
  have X2 := Blk.new w2 43 [.int .i64 0, .slice (some ⟨b2, 0, none⟩) 4 4]
  have Y2 := (X1.ext E2).alloc (.cells #[.int .i64 0, .slice (some ⟨b2, 0, none⟩) 4 4] 43)
  obtain ⟨p0, p1⟩ := X2.cells2
  obtain ⟨q0, q1⟩ := Y2.cells2
  go_wp2_with fail
  refine (eqPage_same 0 _ _ 4 4 4 L _ HL.out (by omega) (F2.alloc _).rd ((F1'.ext E2).alloc _).rd).mono ?_
  rintro e w3 ⟨rfl, E3⟩
  have X3 := X2.ext E3
  have Y3 := Y2.ext E3
  have F3 := (F2.alloc (.cells #[.int .i64 0, .slice (some ⟨b2, 0, none⟩) 4 4] 43)).ext E3
  have G3 := ((F1'.ext E2).alloc (.cells #[.int .i64 0, .slice (some ⟨b2, 0, none⟩) 4 4] 43)).ext E3
  obtain ⟨p0, p1⟩ := X3.cells2
  go_wp2_with fail
  refine (markPage_any b2 4 4 0 1 L [] _ (by omega) (by omega) (by omega) HL.out (by rw [List.append_nil]; exact F3)).mono ?_
  rintro e w4 ⟨rfl, F4, W4⟩
  rw [List.append_nil] at F4
  have hw2 : b2 < w2.heap.size := F2.lt
  have X4 := X3.grown W4 (by omega)
  have Y4 := Y3.grown W4 (by omega)
  have G4 := G3.grown W4 (by omega)
  obtain ⟨p0, p1⟩ := X4.cells2
  go_wp2_with fail
  refine (heldPage_any (some ⟨b2, 0, none⟩) 4 4 0 1 _ (by omega) (by omega) (by omega) F4.rd).mono ?_
  rintro e w5 ⟨rfl, E5⟩
  go_wp2_with fail
  refine (HI.out _).mono ?_
  rintro e w6 ⟨b6, rfl, hb6, F6, E6⟩
  have X6 := Blk.new w6 43 [.int .i64 0, .slice (some ⟨b6, 0, none⟩) 4 4]
  have Y6 := ((Y4.ext E5).ext E6).alloc (.cells #[.int .i64 0, .slice (some ⟨b6, 0, none⟩) 4 4] 43)
  have Z6 := ((X4.ext E5).ext E6).alloc (.cells #[.int .i64 0, .slice (some ⟨b6, 0, none⟩) 4 4] 43)
  obtain ⟨p0, p1⟩ := X6.cells2
  obtain ⟨q0, q1⟩ := Y6.cells2
  go_wp2_with fail
  refine (eqPage_same 0 _ _ 4 4 4 L _ HL.out (by omega) (F6.alloc _).rd (((G4.ext E5).ext E6).alloc _).rd).mono ?_
  rintro e w7 ⟨rfl, E7⟩
  obtain ⟨p0, p1⟩ := (Z6.ext E7).cells2
  go_wp2_with fail
  refine (heldPage_any (some ⟨b2, 0, none⟩) 4 4 0 1 _ (by omega) (by omega) (by omega) ((((F4.ext E5).ext E6).alloc _).ext E7).rd).mono ?_
  rintro e w8 ⟨rfl, E8⟩
  go_wp2_with fail
  go_ret
  refine ⟨rfl, ?_⟩
  have E3' : Ext w w3 := (by repeat (first | exact Ext.refl _ | assumption | refine Ext.alloc ?_ _ | refine Ext.drewN ?_ _ | refine Ext.drew ?_ | refine Ext.set ?_ (by dsimp only; omega) _ | refine Ext.trans ?_ (by assumption)))
  have E4' : Ext w w4 := E3'.grownBy W4 (by have := E1'.le; omega)
  exact (by repeat (first | exact Ext.refl _ | assumption | refine Ext.alloc ?_ _ | refine Ext.drewN ?_ _ | refine Ext.drew ?_ | refine Ext.set ?_ (by dsimp only; omega) _ | refine Ext.trans ?_ (by assumption)))
end Go.Proofs.Ytpjpkkninkpllaa
