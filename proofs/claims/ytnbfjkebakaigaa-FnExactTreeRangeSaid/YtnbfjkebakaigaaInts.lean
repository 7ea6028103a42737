/- The walks of the law file's helpers over []int: copy, compare. -/
import Derived.Test.YtnbfjkebakaigaaRows
import Derived.Test.YtnbfjkebakaigaaMem
namespace Go.Proofs.Ytnbfjkebakaigaa
open Go.RowKit Go.Deep
set_option linter.unusedVariables false
set_option maxRecDepth 100000
theorem info_IntS : (Try.prog.info? 3).map (fun i => (i.zero, i.size, i.bytes)) = some (some (Value.int .i64 0), 1, 8) := by kernel_rfl
/-- []int: a copy in a block of its own -/
theorem toIntS_any (A : Option Addr) (n cp : Nat) (l : List Int) (w : World) (hl : l.length = n) (hn : n ≤ 1099511627776) (hr : Rd w A (l.map fun c => Value.int .i64 c)) :
    Calls Try.prog 77 #[.slice A n cp] w fun e w' => e = .returned (.slice (some ⟨w.heap.size, 0, none⟩) n n) ∧ Blk w' w.heap.size 3 (l.map fun c => Value.int .i64 c) ∧ w'.heap.size = w.heap.size + 1 ∧ Ext w w' := by
  have HL := Lib.hid hl
  clear hl
  have hmk := run_make_row' (P := Try.prog) 24 3 (Value.int .i64 0) 8 Try.underlying24 info_IntS rfl .i64 .i64 n (by omega) (by omega)
  go_enter Try.func77, Try.ntmps77
  go_wp2
  clear hmk
  go_loopw [4] (fun i wr => ∃ k : Nat, k ≤ n ∧ i = .int .i64 k ∧ Blk wr w.heap.size 3 (((l.take k).map fun c => Value.int .i64 c) ++ List.replicate (n - k) (Value.int .i64 0)) ∧ wr.heap.size = w.heap.size + 1 ∧ Ext w wr)
    (fun i _ => n - (intOf i).toNat)
  case atStart => exact ⟨0, Nat.zero_le _, rfl, (Blk.made w _ _ n).of_eq (by simp), by simp, (Ext.refl _).alloc _⟩
  case round =>
    obtain ⟨k, hk, rfl, hB, hsz, hE⟩ := hrel
    have HB := Lib.hid hB
    have HS := Lib.hid hsz
    clear hB hsz
    by_cases hlt : k < n
    · have hkl : k < l.length := by rw [HL.out]; exact hlt
      obtain ⟨b, o, rfl, hc⟩ := (hr.ext hE).map_ hkl
      obtain ⟨u, hu⟩ := fill_at (fun c : Int => Value.int .i64 c) (Value.int .i64 0) l k n hlt HL.out
      have hcell : wr.cell? ⟨w.heap.size, k, none⟩ = some u := by
        obtain ⟨hj, e⟩ := List.getElem?_eq_some_iff.1 hu
        rw [HB.out.cell hj, e]
      have hfr := HB.out.frozen k
      have HU := Lib.hid hu
      clear hu
      go_wp2
      go_roundw
      case rel => exact ⟨k + 1, by omega, by go_num, (HB.out.set k _).of_eq (fill_step (fun c : Int => Value.int .i64 c) _ l k n hkl HL.out), by simpa [World.setCell] using HS.out, hE.set (Nat.le_refl _) _⟩
      case measure => simp [intOf]; omega
    · have hk2 : k = n := by omega
      subst hk2
      go_wp2
      go_ret
      exact ⟨rfl, HB.out.of_eq (fill_done _ _ l k HL.out), HS.out, hE⟩
set_option maxHeartbeats 1000000 in
/-- []int: equal contents are found equal -/
theorem eqIntS_same (A A' : Option Addr) (n cp cp' : Nat) (l : List Int) (w : World) (hl : l.length = n) (hn : n ≤ 1099511627776) (hr : Rd w A (l.map fun c => Value.int .i64 c)) (hr' : Rd w A' (l.map fun c => Value.int .i64 c)) :
    Calls Try.prog 30 #[.slice A n cp, .slice A' n cp'] w fun e w' => e = .returned (.bool true) ∧ Ext w w' ∧ w'.heap = w.heap := by
  have HL := Lib.hid hl
  clear hl
  go_enter Try.func30, Try.ntmps30
  go_wp2
  go_loopw [5] (fun i wr => ∃ k : Nat, k ≤ n ∧ i = .int .i64 k ∧ ∃ m, wr = w.drewN m) (fun i _ => n - (intOf i).toNat)
  case atStart => exact ⟨0, Nat.zero_le _, rfl, 0, rfl⟩
  case round =>
    obtain ⟨k, hk, rfl, m, rfl⟩ := hrel
    by_cases hlt : k < n
    · have hkl : k < l.length := by rw [HL.out]; exact hlt
      obtain ⟨b, o, rfl, hc⟩ := hr.map_ hkl
      obtain ⟨b', o', rfl, hc'⟩ := hr'.map_ hkl
      have hlt2 : (k : Int) < (n : Int) := by omega
      go_wp2
      go_quiet (fail)
      go_wp2
      go_roundw
      case rel => exact ⟨k + 1, by omega, by go_num, m + nq, rfl⟩
      case measure => simp [intOf]; omega
    · have hlt2 : ¬ (k : Int) < (n : Int) := by omega
      go_wp2
      go_ret
      exact ⟨rfl, (Ext.refl _).drewN _, rfl⟩
/-- the size of numbers, taken off what is left -/
theorem szIntS_any (A : Option Addr) (n cp : Nat) (left : Int) (w : World) (hn : n ≤ 9223372036854775807) (h0 : 0 ≤ left) (h1 : left ≤ 1048576) :
    Calls Try.prog 72 #[.slice A n cp, .int .i64 left] w (SzPost w left ((n : Int) ≤ left)) := by
  by_cases hb : left < (n : Int)
  · have d : decide (left - (n : Int) < 0) = true := decide_eq_true (by omega)
    go_enter Try.func72, Try.ntmps72
    go_wp2
    go_ret
    exact ⟨-1, rfl, by omega, by omega, fun h => by omega, Ext.refl _⟩
  · have d : decide (left - (n : Int) < 0) = false := decide_eq_false (by omega)
    go_enter Try.func72, Try.ntmps72
    go_wp2
    go_ret
    exact ⟨left - n, rfl, by omega, by omega, fun _ => by first | trivial | omega, Ext.refl _⟩
end Go.Proofs.Ytnbfjkebakaigaa
