/- The walks of the laws' helpers over Value and slices of it (printed by gen_flat.py). -/
import Derived.Test.YthfkfdfcgldbeaaFlat
import Derived.Test.YthfkfdfcgldbeaaValue
import Derived.Test.YthfkfdfcgldbeaaMark
import Derived.Test.YthfkfdfcgldbeaaRg
namespace Go.Proofs.Ythfkfdfcgldbeaa
open Go.RowKit Go.Deep
set_option linter.unusedVariables false
set_option maxRecDepth 100000
structure CValue where
  a : Int
  b : Int
  c : ByteArray
/-- its cells -/
def CValue.cs (x : CValue) : List Value := [.int .i64 x.a, .int .i64 x.b, .string x.c]
theorem CValue.len (x : CValue) : x.cs.length = 3 := rfl
set_option maxHeartbeats 1000000 in
theorem eqValue_same (a : Int) (b : Int) (c : ByteArray) (w : World) : Calls Try.prog 39 #[.agg #[.int .i64 a, .int .i64 b, .string c], .agg #[.int .i64 a, .int .i64 b, .string c]] w fun e w' => e = .returned (.bool true) ∧ Ext w w' := by
  go_enter Try.func39, Try.ntmps39
  go_wp2
  go_ret
  exact ⟨rfl, (by repeat (first | exact Ext.refl _ | assumption | refine Ext.alloc ?_ _ | refine Ext.drewN ?_ _ | refine Ext.drew ?_ | refine Ext.set ?_ (by dsimp only; omega) _ | refine Ext.trans ?_ (by assumption)))⟩
set_option maxHeartbeats 2000000 in
theorem eqValueS_same (A A' : Option Addr) (n cp cp' : Nat) (l : List CValue) (w : World) (hl : l.length = n) (hn : n ≤ 1099511627776) (hr : Rd w A (l.flatMap CValue.cs)) (hr' : Rd w A' (l.flatMap CValue.cs)) :
    Calls Try.prog 27 #[.slice A n cp, .slice A' n cp'] w fun e w' => e = .returned (.bool true) ∧ Ext w w' := by
  have HL := Lib.hid hl
  clear hl
  go_enter Try.func27, Try.ntmps27
  go_wp2_with fail
  go_loopw [5] (fun i wr => ∃ k : Nat, k ≤ n ∧ i = .int .i64 k ∧ Ext w wr) (fun i _ => n - (intOf i).toNat)
  case atStart => exact ⟨0, Nat.zero_le _, rfl, Ext.refl _⟩
  case round =>
    obtain ⟨k, hk, rfl, hE⟩ := hrel
    by_cases hlt : k < n
    · have hkl : k < l.length := by rw [HL.out]; exact hlt
      obtain ⟨b, o, rfl, hc⟩ := (hr.ext hE).flat CValue.len (by decide) hkl
      have c0 : wr.cell? ⟨b, o + k * 3, none⟩ = some (.int .i64 l[k].a) := by exact hc 0 _ rfl
      have c1 : wr.cell? ⟨b, o + k * 3 + 1, none⟩ = some (.int .i64 l[k].b) := by rw [Nat.add_assoc]; exact hc 1 _ rfl
      have c2 : wr.cell? ⟨b, o + k * 3 + 2, none⟩ = some (.string l[k].c) := by rw [Nat.add_assoc]; exact hc 2 _ rfl
      obtain ⟨b', o', rfl, hc'⟩ := (hr'.ext hE).flat CValue.len (by decide) hkl
      have d0 : wr.cell? ⟨b', o' + k * 3, none⟩ = some (.int .i64 l[k].a) := by exact hc' 0 _ rfl
      have d1 : wr.cell? ⟨b', o' + k * 3 + 1, none⟩ = some (.int .i64 l[k].b) := by rw [Nat.add_assoc]; exact hc' 1 _ rfl
      have d2 : wr.cell? ⟨b', o' + k * 3 + 2, none⟩ = some (.string l[k].c) := by rw [Nat.add_assoc]; exact hc' 2 _ rfl
      have hlt2 : (k : Int) < (n : Int) := by omega
      have C0 := Gr.cell c0
      have C1 := Gr.cell c1
      have C2 := Gr.cell c2
      have D0 := Gr.cell d0
      have D1 := Gr.cell d1
      have D2 := Gr.cell d2
      go_wp2_with fail
      (refine wp_region_gr (by kernel_rfl) (by kernel_rfl) ?_; (repeat (first | go_big_quiet_skip | (go_big_quiet_want; go_big_quiet_op; first | go_big_quiet_on | (apply Exists.intro; refine ⟨fun _ => ?_, ?_⟩; (focus ((go_at_call 39; exact Calls.gr (eqValue_same _ _ _ _)))); go_big_quiet_on)))); refine wpQuiet_nil ?_)
      rintro ⟨w1, E1⟩
      clear C0 C1 C2 D0 D1 D2 c0 c1 c2 d0 d1 d2
      go_wp2_with fail
      go_roundw
      case rel => exact ⟨k + 1, by omega, by go_num, (by repeat (first | exact Ext.refl _ | assumption | refine Ext.alloc ?_ _ | refine Ext.drewN ?_ _ | refine Ext.drew ?_ | refine Ext.set ?_ (by dsimp only; omega) _ | refine Ext.trans ?_ (by assumption)))⟩
      case measure => simp [intOf]; omega
    · have hlt2 : ¬ (k : Int) < (n : Int) := by omega
      go_wp2_with fail
      go_ret
      exact ⟨rfl, hE⟩
/-- a marked one -/
def mkValue : Int → CValue := fun k => ⟨k, k + 1, mtext (k + 1 + 1).toNat⟩
set_option maxHeartbeats 2000000 in
theorem markValueS_any (b n cp : Nat) (k : Int) (l : List CValue) (cs : List Value) (w : World) (hn : n ≤ 1048576) (h1 : 1 ≤ k) (h2 : k ≤ 4000000) (hl : l.length = n) (hB : Blk w b 30 (l.flatMap CValue.cs ++ cs)) :
    Calls Try.prog 28 #[.slice (some ⟨b, 0, none⟩) n cp, .int .i64 k] w fun e w' => e = .returned (.int .i64 (k + 3 * n)) ∧ Blk w' b 30 ((marksF mkValue 3 k n).flatMap CValue.cs ++ cs) ∧ w.grownBy w' (some b) := by
  have HL := Lib.hid hl
  clear hl
  go_enter Try.func28, Try.ntmps28
  go_wp2_with fail
  go_loopw [5, 1] (fun i t wr => ∃ j : Nat, j ≤ n ∧ i = .int .i64 j ∧ t = .int .i64 (k + 3 * j) ∧ Blk wr b 30 ((marksF mkValue 3 k j ++ l.drop j).flatMap CValue.cs ++ cs) ∧ w.grownBy wr (some b)) (fun i _ _ => n - (intOf i).toNat)
  case atStart => exact ⟨0, Nat.zero_le _, rfl, by simp, by simpa [marksF] using hB, World.grownBy.refl _ _⟩
  case round =>
    obtain ⟨j, hj, rfl, rfl, hBr, hG⟩ := hrel
    have HG := Lib.hid hG
    clear hG
    by_cases hlt : j < n
    · have hjl : j < l.length := by rw [HL.out]; exact hlt
      have HB := Lib.hid (hBr.of_eq (markF_head mkValue 3 k l cs j hjl))
      have HP := Lib.hid (marksF_flat mkValue CValue.len 3 k j)
      clear hBr
      have c0 : wr.cell? ⟨b, j * 3, none⟩ = some (.int .i64 l[j].a) := Blk.mid HB.out HP.out (j := 0) (by first | decide | (simp; done) | simp [CValue.cs])
      have c1 : wr.cell? ⟨b, j * 3 + 1, none⟩ = some (.int .i64 l[j].b) := Blk.mid HB.out HP.out (j := 1) (by first | decide | (simp; done) | simp [CValue.cs])
      have c2 : wr.cell? ⟨b, j * 3 + 2, none⟩ = some (.string l[j].c) := Blk.mid HB.out HP.out (j := 2) (by first | decide | (simp; done) | simp [CValue.cs])
      have f0 := HB.out.frozen (j * 3)
      have f1 := HB.out.frozen (j * 3 + 1)
      have f2 := HB.out.frozen (j * 3 + 2)
      have HB1 := Lib.hid (show Blk ((wr.setCell ⟨b, j * 3, none⟩ (.int .i64 (k + 3 * (j : Int)))).setCell ⟨b, j * 3 + 1, none⟩ (.int .i64 (k + 3 * (j : Int) + 1))) b 30 _ from (Blk.setMid (Blk.setMid HB.out HP.out (j := 0) (by first | decide | (simp; done) | simp [CValue.cs]) _) HP.out (j := 1) (by first | decide | (simp; done) | simp [CValue.cs]) _))
      have HG1 := Lib.hid (show w.grownBy ((wr.setCell ⟨b, j * 3, none⟩ (.int .i64 (k + 3 * (j : Int)))).setCell ⟨b, j * 3 + 1, none⟩ (.int .i64 (k + 3 * (j : Int) + 1))) (some b) from (grown_step (grown_step HG.out (Ext.refl _) b _ _) (Ext.refl _) b _ _))
      go_wp2_with fail
      clear c0 f0 c1 f1 c2 f2
      generalize (wr.setCell ⟨b, j * 3, none⟩ (.int .i64 (k + 3 * (j : Int)))).setCell ⟨b, j * 3 + 1, none⟩ (.int .i64 (k + 3 * (j : Int) + 1)) = w1 at HB1 HG1 ⊢
      refine (markText_any (k + 3 * (j : Int) + 1 + 1) w1 (by omega) (by omega)).mono ?_
      rintro e w2 ⟨rfl, E2⟩
      have HB2 := Lib.hid (HB1.out.ext E2)
      have c2 : w2.cell? ⟨b, j * 3 + 2, none⟩ = some (.string l[j].c) := HB2.out.mid HP.out (j := 2) (by first | decide | (simp; done) | simp [CValue.cs])
      have f2 := HB2.out.frozen (j * 3 + 2)
      go_wp2_with fail
      go_roundw
      case rel => exact ⟨j + 1, by omega, by go_num, by go_num, (Blk.setMid HB2.out HP.out (j := 2) (by first | decide | (simp; done) | simp [CValue.cs]) _).of_eq (markF_step mkValue 3 k l cs j).symm, grown_step HG1.out E2 b _ _⟩
      case measure => simp [intOf]; omega
    · have hj4 : j = n := by omega
      subst hj4
      have HD := Lib.hid (hBr.of_eq (markF_done mkValue 3 k l cs j HL.out))
      clear hBr
      go_wp2_with fail
      go_ret
      exact ⟨rfl, HD.out, HG.out⟩
set_option maxHeartbeats 2000000 in
theorem heldValueS_any (A : Option Addr) (n cp : Nat) (k : Int) (w : World) (hn : n ≤ 1048576) (h1 : 1 ≤ k) (h2 : k ≤ 4000000) (hr : Rd w A ((marksF mkValue 3 k n).flatMap CValue.cs)) :
    Calls Try.prog 29 #[.slice A n cp, .int .i64 k] w fun e w' => e = .returned (.int .i64 (k + 3 * n)) ∧ Ext w w' := by
  go_enter Try.func29, Try.ntmps29
  go_wp2_with fail
  go_loopw [5, 1] (fun i t wr => ∃ j : Nat, j ≤ n ∧ i = .int .i64 j ∧ t = .int .i64 (k + 3 * j) ∧ Ext w wr) (fun i _ _ => n - (intOf i).toNat)
  case atStart => exact ⟨0, Nat.zero_le _, rfl, by simp, Ext.refl _⟩
  case round =>
    obtain ⟨j, hj, rfl, rfl, hE⟩ := hrel
    by_cases hlt : j < n
    · have hjl : j < (marksF mkValue 3 k n).length := by rw [marksF_len]; exact hlt
      obtain ⟨b, o, rfl, hc⟩ := (hr.ext hE).flat CValue.len (by decide) hjl
      rw [marksF_at mkValue 3 k n j hjl] at hc
      have c0 : wr.cell? ⟨b, o + j * 3, none⟩ = some (.int .i64 (k + 3 * (j : Int))) := by exact hc 0 _ rfl
      have c1 : wr.cell? ⟨b, o + j * 3 + 1, none⟩ = some (.int .i64 (k + 3 * (j : Int) + 1)) := by rw [Nat.add_assoc]; exact hc 1 _ rfl
      have c2 : wr.cell? ⟨b, o + j * 3 + 2, none⟩ = some (.string (mtext (k + 3 * (j : Int) + 1 + 1).toNat)) := by rw [Nat.add_assoc]; exact hc 2 _ rfl
      have hlt2 : (j : Int) < (n : Int) := by omega
      clear hc
      have hm := fun W => markText_any (k + 3 * (j : Int) + 1 + 1) W (by omega) (by omega)
      generalize mtext (k + 3 * (j : Int) + 1 + 1).toNat = X at c2 hm
      have HM := Lib.hid hm
      clear hm
      have hg := Gr.cell c2
      go_wp2_with fail
      (refine wp_region_gr (by kernel_rfl) (by kernel_rfl) ?_; (repeat (first | go_big_quiet_skip | (go_big_quiet_want; go_big_quiet_op; first | go_big_quiet_on | (apply Exists.intro; refine ⟨fun _ => ?_, ?_⟩; (focus ((go_at_call 72; exact Calls.gr (HM.out _)))); go_big_quiet_on)))); refine wpQuiet_nil ?_)
      rintro ⟨w1, E1⟩
      clear hg c0 c1 c2
      go_wp2_with fail
      go_roundw
      case rel => exact ⟨j + 1, by omega, by go_num, by go_num, (by repeat (first | exact Ext.refl _ | assumption | refine Ext.alloc ?_ _ | refine Ext.drewN ?_ _ | refine Ext.drew ?_ | refine Ext.set ?_ (by dsimp only; omega) _ | refine Ext.trans ?_ (by assumption)))⟩
      case measure => simp [intOf]; omega
    · have hj4 : j = n := by omega
      subst hj4
      go_wp2_with fail
      go_ret
      exact ⟨rfl, hE⟩
end Go.Proofs.Ythfkfdfcgldbeaa
