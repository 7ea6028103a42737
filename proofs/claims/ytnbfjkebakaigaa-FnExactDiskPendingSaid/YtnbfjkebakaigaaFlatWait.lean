/- The walks of the laws' helpers over Wait and slices of it (printed by gen_flat.py). -/
import Derived.Test.YtnbfjkebakaigaaFlat
import Derived.Test.YtnbfjkebakaigaaMark
import Derived.Test.YtnbfjkebakaigaaRg
namespace Go.Proofs.Ytnbfjkebakaigaa
open Go.RowKit Go.Deep
set_option linter.unusedVariables false
set_option maxRecDepth 100000
structure CWait where
  a : Int
  b : Int
/-- its cells -/
def CWait.cs (x : CWait) : List Value := [.int .i64 x.a, .int .i64 x.b]
theorem CWait.len (x : CWait) : x.cs.length = 2 := rfl
theorem toWait_any (a : Int) (b : Int) (w : World) : Calls Try.prog 150 #[.agg #[.int .i64 a, .int .i64 b]] w fun e w' => e = .returned (.agg #[.int .i64 a, .int .i64 b]) ∧ Ext w w' := by
  go_enter Try.func150, Try.ntmps150
  go_wp2
  refine bodyPost_ret (v := .agg #[.int .i64 a, .int .i64 b]) (by simp [results, Try.results150, go_sem]) rfl ⟨rfl, (((Ext.refl _).alloc _).alloc _).alloc _⟩
set_option maxHeartbeats 1000000 in
theorem eqWait_same (a : Int) (b : Int) (w : World) : Calls Try.prog 156 #[.agg #[.int .i64 a, .int .i64 b], .agg #[.int .i64 a, .int .i64 b]] w fun e w' => e = .returned (.bool true) ∧ Ext w w' := by
  go_enter Try.func156, Try.ntmps156
  go_wp2
  go_ret
  exact ⟨rfl, (by repeat (first | exact Ext.refl _ | assumption | refine Ext.alloc ?_ _ | refine Ext.drewN ?_ _ | refine Ext.drew ?_ | refine Ext.set ?_ (by dsimp only; omega) _ | refine Ext.trans ?_ (by assumption)))⟩
theorem info_Wait : (Try.prog.info? 128).map (fun i => (i.zero, i.size, i.bytes)) = some (some (Value.agg #[.int .i64 0, .int .i64 0]), 2, 16) := by kernel_rfl
set_option maxHeartbeats 2000000 in
/-- a copy in a block of its own -/
theorem toWaitS_any (A : Option Addr) (n cp : Nat) (l : List CWait) (w : World) (hl : l.length = n) (hn : n ≤ 1099511627776) (hr : Rd w A (l.flatMap CWait.cs)) :
    Calls Try.prog 101 #[.slice A n cp] w fun e w' => e = .returned (.slice (some ⟨w.heap.size, 0, none⟩) n n) ∧ Blk w' w.heap.size 128 (l.flatMap CWait.cs) ∧ Ext w w' := by
  have HL := Lib.hid hl
  clear hl
  have hmk := run_make_rowF (P := Try.prog) 55 128 (Value.agg #[.int .i64 0, .int .i64 0]) #[.int .i64 0, .int .i64 0] 2 16 rfl Try.underlying55 info_Wait n (by omega) (by omega)
  go_enter Try.func101, Try.ntmps101
  go_wp2_with fail
  clear hmk
  go_loopw [4] (fun i wr => ∃ k : Nat, k ≤ n ∧ i = .int .i64 k ∧ Blk wr w.heap.size 128 (fillF CWait.cs [.int .i64 0, .int .i64 0] l k n) ∧ Ext w wr) (fun i _ => n - (intOf i).toNat)
  case atStart => exact ⟨0, Nat.zero_le _, rfl, (Blk.madeF w _ _ n _ rfl).of_eq (fillF_zero _ _ _).symm, (Ext.refl _).alloc _⟩
  case round =>
    obtain ⟨k, hk, rfl, hB, hE⟩ := hrel
    have HB := Lib.hid hB
    clear hB
    by_cases hlt : k < n
    · have hkl : k < l.length := by rw [HL.out]; exact hlt
      obtain ⟨b, o, rfl, hc⟩ := (hr.ext hE).flat CWait.len (by decide) hkl
      have c0 : wr.cell? ⟨b, o + k * 2, none⟩ = some (.int .i64 l[k].a) := by exact hc 0 _ rfl
      have c1 : wr.cell? ⟨b, o + k * 2 + 1, none⟩ = some (.int .i64 l[k].b) := by rw [Nat.add_assoc]; exact hc 1 _ rfl
      go_wp2_with fail
      refine (toWait_any _ _ wr).mono ?_
      rintro e w1 ⟨rfl, E1⟩
      have HB1 := Lib.hid ((HB.out.ext E1).of_eq (fillF_head _ l k n hlt))
      have HP := Lib.hid (fillF_pre CWait.len l k (by omega))
      have d0 : w1.cell? ⟨w.heap.size, k * 2, none⟩ = some (.int .i64 0) := Blk.mid HB1.out HP.out (j := 0) (by first | decide | (simp; done) | simp [CWait.cs])
      have d1 : w1.cell? ⟨w.heap.size, k * 2 + 1, none⟩ = some (.int .i64 0) := Blk.mid HB1.out HP.out (j := 1) (by first | decide | (simp; done) | simp [CWait.cs])
      have f0 := HB1.out.frozen (k * 2)
      have f1 := HB1.out.frozen (k * 2 + 1)
      clear c0 c1
      go_wp2_with fail
      go_roundw
      case rel => exact ⟨k + 1, by omega, by go_num, (Blk.setMid (Blk.setMid HB1.out HP.out (j := 0) (by first | decide | (simp; done) | simp [CWait.cs]) _) HP.out (j := 1) (by first | decide | (simp; done) | simp [CWait.cs]) _).of_eq (fillF_step _ l k n hkl).symm, (Ext.set (Ext.set (hE.trans E1) (Nat.le_refl _) _) (Nat.le_refl _) _)⟩
      case measure => simp [intOf]; omega
    · have hk2 : k = n := by omega
      subst hk2
      go_wp2_with fail
      go_ret
      exact ⟨rfl, HB.out.of_eq (fillF_done _ _ _ HL.out), hE⟩
set_option maxHeartbeats 2000000 in
theorem eqWaitS_same (A A' : Option Addr) (n cp cp' : Nat) (l : List CWait) (w : World) (hl : l.length = n) (hn : n ≤ 1099511627776) (hr : Rd w A (l.flatMap CWait.cs)) (hr' : Rd w A' (l.flatMap CWait.cs)) :
    Calls Try.prog 109 #[.slice A n cp, .slice A' n cp'] w fun e w' => e = .returned (.bool true) ∧ Ext w w' := by
  have HL := Lib.hid hl
  clear hl
  go_enter Try.func109, Try.ntmps109
  go_wp2_with fail
  go_loopw [5] (fun i wr => ∃ k : Nat, k ≤ n ∧ i = .int .i64 k ∧ Ext w wr) (fun i _ => n - (intOf i).toNat)
  case atStart => exact ⟨0, Nat.zero_le _, rfl, Ext.refl _⟩
  case round =>
    obtain ⟨k, hk, rfl, hE⟩ := hrel
    by_cases hlt : k < n
    · have hkl : k < l.length := by rw [HL.out]; exact hlt
      obtain ⟨b, o, rfl, hc⟩ := (hr.ext hE).flat CWait.len (by decide) hkl
      have c0 : wr.cell? ⟨b, o + k * 2, none⟩ = some (.int .i64 l[k].a) := by exact hc 0 _ rfl
      have c1 : wr.cell? ⟨b, o + k * 2 + 1, none⟩ = some (.int .i64 l[k].b) := by rw [Nat.add_assoc]; exact hc 1 _ rfl
      obtain ⟨b', o', rfl, hc'⟩ := (hr'.ext hE).flat CWait.len (by decide) hkl
      have d0 : wr.cell? ⟨b', o' + k * 2, none⟩ = some (.int .i64 l[k].a) := by exact hc' 0 _ rfl
      have d1 : wr.cell? ⟨b', o' + k * 2 + 1, none⟩ = some (.int .i64 l[k].b) := by rw [Nat.add_assoc]; exact hc' 1 _ rfl
      have hlt2 : (k : Int) < (n : Int) := by omega
      have C0 := Gr.cell c0
      have C1 := Gr.cell c1
      have D0 := Gr.cell d0
      have D1 := Gr.cell d1
      go_wp2_with fail
      (refine wp_region_gr (by kernel_rfl) (by kernel_rfl) ?_; (repeat (first | go_big_quiet_skip | (go_big_quiet_want; go_big_quiet_op; first | go_big_quiet_on | (apply Exists.intro; refine ⟨fun _ => ?_, ?_⟩; (focus ((go_at_call 156; exact Calls.gr (eqWait_same _ _ _)))); go_big_quiet_on)))); refine wpQuiet_nil ?_)
      rintro ⟨w1, E1⟩
      clear C0 C1 D0 D1 c0 c1 d0 d1
      go_wp2_with fail
      go_roundw
      case rel => exact ⟨k + 1, by omega, by go_num, (by repeat (first | exact Ext.refl _ | assumption | refine Ext.alloc ?_ _ | refine Ext.drewN ?_ _ | refine Ext.drew ?_ | refine Ext.set ?_ (by dsimp only; omega) _ | refine Ext.trans ?_ (by assumption)))⟩
      case measure => simp [intOf]; omega
    · have hlt2 : ¬ (k : Int) < (n : Int) := by omega
      go_wp2_with fail
      go_ret
      exact ⟨rfl, hE⟩
theorem szWaitS_any (A : Option Addr) (n cp : Nat) (left : Int) (w : World) (hn : n ≤ 9223372036854775807) (h0 : 0 ≤ left) (h1 : left ≤ 1048576) :
    Calls Try.prog 97 #[.slice A n cp, .int .i64 left] w (SzPost w left ((n : Int) ≤ left)) := by
  by_cases hb : left < (n : Int)
  · have d : decide (left - (n : Int) < 0) = true := decide_eq_true (by omega)
    go_enter Try.func97, Try.ntmps97
    go_wp2
    go_ret
    exact ⟨-1, rfl, by omega, by omega, fun h => by omega, Ext.refl _⟩
  · have d : decide (left - (n : Int) < 0) = false := decide_eq_false (by omega)
    go_enter Try.func97, Try.ntmps97
    go_wp2
    go_ret
    exact ⟨left - n, rfl, by omega, by omega, fun _ => by first | trivial | omega, Ext.refl _⟩
/-- a marked one -/
def mkWait : Int → CWait := fun k => ⟨k, k + 1⟩
set_option maxHeartbeats 2000000 in
theorem markWaitS_any (b n cp : Nat) (k : Int) (l : List CWait) (cs : List Value) (w : World) (hn : n ≤ 1048576) (h1 : 1 ≤ k) (h2 : k ≤ 8000000) (hl : l.length = n) (hB : Blk w b 128 (l.flatMap CWait.cs ++ cs)) :
    Calls Try.prog 118 #[.slice (some ⟨b, 0, none⟩) n cp, .int .i64 k] w fun e w' => e = .returned (.int .i64 (k + 2 * n)) ∧ Blk w' b 128 ((marksF mkWait 2 k n).flatMap CWait.cs ++ cs) ∧ w.grownBy w' (some b) := by
  have HL := Lib.hid hl
  clear hl
  go_enter Try.func118, Try.ntmps118
  go_wp2_with fail
  go_loopw [5, 1] (fun i t wr => ∃ j : Nat, j ≤ n ∧ i = .int .i64 j ∧ t = .int .i64 (k + 2 * j) ∧ Blk wr b 128 ((marksF mkWait 2 k j ++ l.drop j).flatMap CWait.cs ++ cs) ∧ w.grownBy wr (some b)) (fun i _ _ => n - (intOf i).toNat)
  case atStart => exact ⟨0, Nat.zero_le _, rfl, by simp, by simpa [marksF] using hB, World.grownBy.refl _ _⟩
  case round =>
    obtain ⟨j, hj, rfl, rfl, hBr, hG⟩ := hrel
    have HG := Lib.hid hG
    clear hG
    by_cases hlt : j < n
    · have hjl : j < l.length := by rw [HL.out]; exact hlt
      have HB := Lib.hid (hBr.of_eq (markF_head mkWait 2 k l cs j hjl))
      have HP := Lib.hid (marksF_flat mkWait CWait.len 2 k j)
      clear hBr
      have c0 : wr.cell? ⟨b, j * 2, none⟩ = some (.int .i64 l[j].a) := Blk.mid HB.out HP.out (j := 0) (by first | decide | (simp; done) | simp [CWait.cs])
      have c1 : wr.cell? ⟨b, j * 2 + 1, none⟩ = some (.int .i64 l[j].b) := Blk.mid HB.out HP.out (j := 1) (by first | decide | (simp; done) | simp [CWait.cs])
      have f0 := HB.out.frozen (j * 2)
      have f1 := HB.out.frozen (j * 2 + 1)
      go_wp2_with fail
      go_roundw
      case rel => exact ⟨j + 1, by omega, by go_num, by go_num, (Blk.setMid (Blk.setMid HB.out HP.out (j := 0) (by first | decide | (simp; done) | simp [CWait.cs]) _) HP.out (j := 1) (by first | decide | (simp; done) | simp [CWait.cs]) _).of_eq (markF_step mkWait 2 k l cs j).symm, (grown_step (grown_step HG.out (Ext.refl _) b _ _) (Ext.refl _) b _ _)⟩
      case measure => simp [intOf]; omega
    · have hj4 : j = n := by omega
      subst hj4
      have HD := Lib.hid (hBr.of_eq (markF_done mkWait 2 k l cs j HL.out))
      clear hBr
      go_wp2_with fail
      go_ret
      exact ⟨rfl, HD.out, HG.out⟩
set_option maxHeartbeats 2000000 in
theorem heldWaitS_any (A : Option Addr) (n cp : Nat) (k : Int) (w : World) (hn : n ≤ 1048576) (h1 : 1 ≤ k) (h2 : k ≤ 8000000) (hr : Rd w A ((marksF mkWait 2 k n).flatMap CWait.cs)) :
    Calls Try.prog 148 #[.slice A n cp, .int .i64 k] w fun e w' => e = .returned (.int .i64 (k + 2 * n)) ∧ Ext w w' := by
  go_enter Try.func148, Try.ntmps148
  go_wp2_with fail
  go_loopw [5, 1] (fun i t wr => ∃ j : Nat, j ≤ n ∧ i = .int .i64 j ∧ t = .int .i64 (k + 2 * j) ∧ Ext w wr) (fun i _ _ => n - (intOf i).toNat)
  case atStart => exact ⟨0, Nat.zero_le _, rfl, by simp, Ext.refl _⟩
  case round =>
    obtain ⟨j, hj, rfl, rfl, hE⟩ := hrel
    by_cases hlt : j < n
    · have hjl : j < (marksF mkWait 2 k n).length := by rw [marksF_len]; exact hlt
      obtain ⟨b, o, rfl, hc⟩ := (hr.ext hE).flat CWait.len (by decide) hjl
      rw [marksF_at mkWait 2 k n j hjl] at hc
      have c0 : wr.cell? ⟨b, o + j * 2, none⟩ = some (.int .i64 (k + 2 * (j : Int))) := by exact hc 0 _ rfl
      have c1 : wr.cell? ⟨b, o + j * 2 + 1, none⟩ = some (.int .i64 (k + 2 * (j : Int) + 1)) := by rw [Nat.add_assoc]; exact hc 1 _ rfl
      have hlt2 : (j : Int) < (n : Int) := by omega
      clear hc
      go_wp2_with fail
      go_roundw
      case rel => exact ⟨j + 1, by omega, by go_num, by go_num, hE⟩
      case measure => simp [intOf]; omega
    · have hj4 : j = n := by omega
      subst hj4
      go_wp2_with fail
      go_ret
      exact ⟨rfl, hE⟩
end Go.Proofs.Ytnbfjkebakaigaa
